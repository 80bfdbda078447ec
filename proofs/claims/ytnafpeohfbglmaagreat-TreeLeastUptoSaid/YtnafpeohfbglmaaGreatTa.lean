import Derived.AtR
import Derived.Defers
import Derived.Laws.Sem
import Derived.Laws.World
import Derived.Laws.NewBlocks
import Derived.Laws.Cells
import Derived.Laws.Strings
import Derived.Laws.Tables
import Derived.Laws.Small
import Derived.LaidEql
import Derived.Laws.Append
import Derived.Laws.CopyRow
import Derived.Laws.Slices
import Derived.Laws.IdiomStrings
import Derived.Orders
set_option linter.unusedVariables false
set_option linter.unusedSimpArgs false
universe u
open Array renaming all_eq_true'→aA3,ext'→ap9,foldl_toList→aw4,getD_eq_getD_getElem?→ag1,getElem?_append_left→as',getElem?_eq_getElem→at5,getElem?_eq_some_iff→t8,getElem?_push→az',getElem?_setIfInBounds→ag6,length_toList→ae5,replicate→al4,toList_extract→av3,toList_push→as3
open Bool renaming and_eq_true→f4,false_eq_true→af7,false_or→ah2,not_eq_true'→ai3,not_true→aj',true_and→f5
open Int renaming ofNat→as7
open List renaming all_eq_true→af5,append_assoc→ag',drop_nil→as9,drop_succ_cons→ao2,eq_nil_of_length_eq_zero→ai9,flatMap_cons→aj5,flatMap→aD1,foldl_cons→ah4,getElem?_append_left→af9,getElem?_append_right→ae',getElem?_cons_succ→ai4,getElem?_eq_some_iff→t7,getElem?_map→ae7,getElem?_take→ai2,length_append→f9,length_cons→i5,length_drop→ai8,length_take→ae9,mapM_cons→ay5,map_cons→ae0,map_nil→ag7,map_toArray→ar4,mem_append→ae2,mem_cons_of_mem→i0,mem_cons_self→i6,mem_cons→ae8,mem_filter→ag3,mem_map→af8,mem_of_mem_take→ar0,mem_range'_1→aq9,mem_range→aj2,mem_singleton→t6,nil_append→f0,nodup_cons→ar9,range'_succ→ax4,range'→ay3,range→ah8,replicate→H1,size_toArray→an4,take_left→ay4,take_nil→aC4,zipIdx_cons→aw'
open Nat renaming add_assoc→ao4,add_comm→ar3,add_mul→ak1,add_zero→aq0,beq_refl→at7,beq→af2,ble→ao6,blt_eq→an7,blt→z2,eq_of_beq_eq_true→ad',le_of_ble_eq_true→ao5,le_refl→g7,le_trans→an0,lt_of_lt_of_le→aj7,lt_trichotomy→aq8,mul_le_mul_right→am9,strongRecOn→av0,testBit_or→al7,testBit_two_pow→ak6,zero_add→af6
open Option renaming bind_some→ai',getD_some→ae4,isSome_none→ap',map_eq_some_iff→ay0,map_some→al',some→ak0
open Go.Result renaming andThen_ok→i7
open Go.Sem renaming runT_eq→au5,run_bind→aa',run_pure→ae3,run→aw8
namespace Go.Proofs.YtnafpeohfbglmaaGreat
theorem d7 {c:Prop} {h:Decidable c} (k:¬c) {α:Sort _} {t e:α}:(if c then t else e)=e:=if_neg k
theorem f7 {c:Prop} {h:Decidable c} (k:c) {α:Sort _} {t e:α}:(if c then t else e)=t:=if_pos k
theorem g8 {p:Prop} [h:Decidable p] (k:p):decide p=true:=decide_eq_true k
theorem i8 {p:Prop} [h:Decidable p] (k:¬p):decide p=false:=decide_eq_false k
theorem ag5 {α:Sort _} {h:Decidable True} (t e:α):(if True then t else e)=t:=if_true t e
theorem ah9 {α:Sort _} {h:Decidable False} (t e:α):(if False then t else e)=e:=if_false t e
theorem ae6 {α:Sort _} {β:Sort _} {a b:α} (f:α→β) (h:a=b):f a=f b:=congrArg f h
theorem am5 {α:Type _} [BEq α] [LawfulBEq α] {a b:α}:(a==b)=true↔a=b:=beq_iff_eq
theorem aj1 {p:Prop} [h:Decidable p] (k:decide p=true):p:=of_decide_eq_true k
theorem g6 {p:Prop} [h:Decidable p]:(decide p=true)=p:=decide_eq_true_eq
theorem C {α:Sort u} {a:α}:a=a:=Eq.refl a
theorem x0 {p:Prop} (h:p:=by rw [List.length_take,b9];omega):p:=h
theorem vP {p:Prop} (h:p:=by rw [List.length_take];omega):p:=h
theorem pJ {p:Prop} (h:p:=by simpa using ad):p:=h
theorem uu {p:Prop} (h:p:=by simpa using an):p:=h
theorem uv {p:Prop} (h:p:=by simpa using ab):p:=h
theorem hx {p:Prop} (h:p:=by simpa using h):p:=h
theorem cL {p:Prop} (h:p:=by simp;omega):p:=h
theorem oa {p:Prop} (h:p:=by cases h):p:=h
theorem ag {p:Prop} (h:p:=by omega):p:=h
theorem bc {p:Prop} (h:p:=by simp):p:=h
inductive hg where
 | normal
 | exit (id:Nat)
 | ret
 | panic (chain:List PanicEntry)
def qy (P:Program) (m:Machine) (b:Frame) (k:List Item) (cs:List Frame):hg→Act→World→Prop
  | .normal,a,w=>Steps P m (lone (b.atR a k) cs w)
  | .exit id,a,w=>(∀ k',exitTo id k=some k'→Steps P m (lone (b.atR a k') cs w)) ∧
      (exitTo id k=none→∃ k₁,exitTo id k₁=none∧Steps P m (lone (b.atR a (.code (.exit id)::k₁)) cs w))
  | .ret,a,w=>∃ k₁,Steps P m (lone (b.atR a (.code .ret::k₁)) cs w)
  | .panic dx,a,w=>∃ k₁,Steps P m (lone { b.atR a k₁ with mode := .panicking dx } cs w)
theorem qy.of_steps {P:Program} {m m₁:Machine} {b:Frame} {k:List Item} {cs:List Frame} {e:hg} {a:Act} {w:World}
  (h:Steps P m m₁) (eY:qy P m₁ b k cs e a w):qy P m b k cs e a w:=by
 cases e with
 | normal=>exact h.trans eY
 | exit id=>exact ⟨fun k' aA=>h.trans (eY.1 k' aA),fun aA=>let ⟨k₁,aa,ad⟩:=eY.2 aA;⟨k₁,aa,h.trans ad⟩⟩
 | ret=>obtain ⟨k₁,au⟩:=eY;exact ⟨k₁,h.trans au⟩
 | panic dx=>obtain ⟨k₁,au⟩:=eY;exact ⟨k₁,h.trans au⟩
def jS (P:Program) (b:Frame) (c:Code) (Q:hg→Act→World→Prop) (a:Act) (w:World):Prop:=
 ∀ (k:List Item) (cs:List Frame),∃ e c1 w',Q e c1 w'∧qy P (lone (b.atR a (.code c::k)) cs w) b k cs e c1 w'
section rules
variable {P:Program} {b:Frame} {Q:hg→Act→World→Prop} {a:Act} {w:World}
theorem mq {c:Code} {oW:hg→Act→World→Prop} (h:jS P b c Q a w) (bn:∀ e a w,Q e a w→oW e a w):jS P b c oW a w:=
 fun k cs=>let ⟨e,c1,w',q,r⟩:=h k cs;⟨e,c1,w',bn _ _ _ q,r⟩
theorem Rm (h:Q .normal a w):jS P b .skip Q a w:=fun _ _=>⟨.normal,a,w,h,.one stepR_skip⟩
theorem Ro (h:Q .ret a w):jS P b .ret Q a w:=fun k _=>⟨.ret,a,w,h,k,.refl P _⟩
theorem Rq {id:Nat} (h:Q (.exit id) a w):jS P b (.exit id) Q a w:=
 fun k _=>⟨.exit id,a,w,h,fun _ aA => .one (stepR_exit aA),fun aA=>⟨k,aA,.refl P _⟩⟩
def hg.andThen (next:Act→World→Prop) (Q:hg→Act→World→Prop):hg→Act→World→Prop
 | .normal,a,w=>next a w
 | e,a,w=>Q e a w
theorem qy.JW {m:Machine} {c:Code} {k:List Item} {cs:List Frame} {e:hg} {a:Act} {w:World} (x:Item) (ab:x.plain=true)
  (he:e ≠ .normal) (h:qy P m b (x::k) cs e a w):qy P m b k cs e a w:=by
 cases e with
 | normal=>exact absurd C he
 | exit id=>exact ⟨fun k' aA=>h.1 k' (by cases x<;>simp_all [exitTo,Item.plain]),fun aA=>h.2 (by cases x<;>simp_all [exitTo,Item.plain])⟩
 | ret=>exact h
 | panic dx=>exact h
theorem Rr {x y:Code} (h:jS P b x (hg.andThen (jS P b y Q) Q) a w):jS P b (.seq x y) Q a w:=by
 intro k cs;obtain ⟨e,iM,w₁,bn,ga⟩:=h (.code y::k) cs;by_cases he:e = .normal
 ·subst he
  obtain ⟨zC,Cp,hO,uw,ux⟩:=bn k cs;exact ⟨zC,Cp,hO,uw,.of_steps (.head stepR_seq ga) ux⟩
 ·have qz:Q e iM w₁:=by cases e<;>first|exact absurd C he|exact bn
  exact ⟨e,iM,w₁,qz,.of_steps (.one stepR_seq) (qy.JW (c:=y) (.code y) C he ga)⟩
theorem Rs {c:Operand} {x y:Code} {t:Bool} (aD:a.eval c = .bool t) (h:jS P b (if t then x else y) Q a w):jS P b (.cond c x y) Q a w:=
 fun k cs=>let ⟨e,c1,w',q,r⟩:=h k cs;⟨e,c1,w',q,.of_steps (.one (stepR_cond aD)) r⟩
def hg.inBlock (id:Nat) (Q:hg→Act→World→Prop):hg→Act→World→Prop
 | .exit kS,a,w=>if kS=id then Q .normal a w else Q (.exit kS) a w
 | e,a,w=>Q e a w
theorem Rt {id:Nat} {c:Code} (h:jS P b c (hg.inBlock id Q) a w):jS P b (.block id c) Q a w:=by
 intro k cs;obtain ⟨e,iM,w₁,bn,ga⟩:=h (.inBlock id::k) cs;cases e with
 | normal=>exact ⟨.normal,iM,w₁,bn,.head stepR_block (Steps.trans ga (.one stepR_inBlock))⟩
 | exit kS=>
  by_cases s9:kS=id
  ·simp only [hg.inBlock,s9,ag5] at bn
   exact ⟨.normal,iM,w₁,bn,.head stepR_block (ga.1 k (by simp [exitTo,s9]))⟩
  ·simp only [hg.inBlock,s9,ah9] at bn
   have cP:(id==kS)=false:=by simp;exact fun h=>s9 h.symm
   refine ⟨.exit kS,iM,w₁,bn,fun k' aA => .head stepR_block (ga.1 k' (by simp [exitTo,cP,aA])),fun aA=>?_⟩;obtain ⟨k₁,aa,ad⟩:=ga.2 (by simp [exitTo,cP,aA]);exact ⟨k₁,aa,.head stepR_block ad⟩
 | ret=>obtain ⟨k₁,au⟩:=ga;exact ⟨.ret,iM,w₁,bn,k₁,.head stepR_block au⟩
 | panic dx=>obtain ⟨k₁,au⟩:=ga;exact ⟨.panic dx,iM,w₁,bn,k₁,.head stepR_block au⟩
end rules
def Round (P:Program) (l:Nat) (f:FuncId) (tmps:Array Value) (hi body:Code) (w:World) (R:Ending→World→Prop):Prop:=
 ∀ (c:Frame) (cs:List Frame),∃ e w',R e w' ∧
  match e with
  | .returned v=>Steps P (lone (Frame.round l f tmps hi body .normal) (c::cs) w) (lone (c.finish v) cs w')
  | .panicked dx=>Steps P (lone (Frame.round l f tmps hi body .normal) (c::cs) w) (lone (c.raise dx) cs w')
  | .outgrown=>False
def s' (P:Program) (f:FuncId) (args:Array Value) (w:World) (R:Ending→World→Prop):Prop:=
 Calls P f args w fun e w'=>e ≠ .outgrown∧R e w'
theorem s'.mono {P:Program} {f:FuncId} {args:Array Value} {w:World} {R du:Ending→World→Prop} (h:s' P f args w R)
  (aE:∀ e w',R e w'→du e w'):s' P f args w du:=Calls.mono h fun e w' ⟨aa,ad⟩=>⟨aa,aE e w' ad⟩
def zD (P:Program) (gC:Next) (w:World) (R:Ending→World→Prop):Prop:=
 match gC with
 | .value v=>R (.returned v) w
 | .skip=>R (.returned undef) w
 | .enter f args=>s' P f args w R
 | .round l f tmps hi body=>Round P l f tmps hi body w R
 | _=>False
def pK (P:Program) (r:Result Next) (R:Ending→World→Prop):Prop:=
 match r with
 | .ok gC w'=>zD P gC w' R
 | .halt (.panic v) w'=>R (.panicked [{ v,recovered:=false }]) w'
 | _=>False
theorem Round.mono {P:Program} {l:Nat} {f:FuncId} {tmps:Array Value} {hi body:Code} {w:World} {R du:Ending→World→Prop}
  (h:Round P l f tmps hi body w R) (aE:∀ e w',R e w'→du e w'):Round P l f tmps hi body w du :=
 fun c cs=>let ⟨e,w',r,s⟩:=h c cs;⟨e,w',aE _ _ r,s⟩
theorem zD.mono {P:Program} {gC:Next} {w:World} {R du:Ending→World→Prop} (h:zD P gC w R)
  (aE:∀ e w',R e w'→du e w'):zD P gC w du:=by
 cases gC<;>first|exact aE _ _ h|exact s'.mono h aE|exact Round.mono h aE|exact h.elim
theorem pK.mono {P:Program} {r:Result Next} {R du:Ending→World→Prop} (h:pK P r R) (aE:∀ e w',R e w'→du e w'):pK P r du:=by
 unfold pK at h ⊢;split at h
 ·exact zD.mono h aE
 ·exact aE _ _ h
 ·exact h.elim
def gH (o:Oper):Bool:=match o.op with | .defer _=>false|_=>true
section ops
variable {P:Program} {b:Frame} {a:Act} {k:List Item} {cs:List Frame} {w:World} {ops:Array Oper}
theorem Ru {i:Nat} {rest:List Nat} {o:Oper} {R:Ending→World→Prop} (ai:ops[i]? = some o) (hw:Region.wanted o (yielded ops a.tmps)=true)
  (ay:gH o=true) (h:pK P ((execOp a.eval o).run P w) R) :
  ∃ e w',R e w' ∧
   match e with
   | .returned v=>Steps P (lone (b.atR a (.inRegion ops (i::rest)::k)) cs w) (lone (b.atR (a.put o.dst v) (.inRegion ops rest::k)) cs w')
   | .panicked dx=>∃ k₁,Steps P (lone (b.atR a (.inRegion ops (i::rest)::k)) cs w) (lone { b.atR a k₁ with mode := .panicking dx } cs w')
   | .outgrown=>False:=by
 have aq:=stepGR_op (P:=P) (b:=b) (k:=k) (cs:=cs) (w:=w) (rest:=rest) ai hw;have Rv:o.semAt b.roundOf a.eval=execOp a.eval o:=Oper.semAt_eq _ _ _ (fun c aD=>by simp [gH,aD] at ay);rw [Rv] at aq;have qA:∀ v,(b.atR a (.inRegion ops (i::rest)::k)).finish v=b.atR (a.put o.dst v) (.inRegion ops rest::k):=by
  intro v;rw [Frame.finish_atR,ai];rfl
 unfold pK at h;split at h
 ·rename_i gC w' aE
  cases gC with
  | value v=>
   refine ⟨.returned v,w',h,.one (step_lone_go ?_)⟩;rw [aq,← qA];simp [stepG.apply,aE]
  | skip=>
   refine ⟨.returned undef,w',h,.one (step_lone_go ?_)⟩;rw [aq,← qA];simp [stepG.apply,aE]
  | enter f args=>
   obtain ⟨e,mr,hj,⟨h',dW⟩,ta,_,zE⟩:=h (b.atR a (.inRegion ops (i::rest)::k)::cs);have tb:step P (lone (b.atR a (.inRegion ops (i::rest)::k)) cs w) =
     .next (lone (Frame.enter P f args .normal) (b.atR a (.inRegion ops (i::rest)::k)::cs) w'):=
    step_lone_go (by rw [aq];simp [stepG.apply,aE,Frame.atR])
   cases e with
   | returned v=>
    refine ⟨.returned v,mr,dW,.head tb (ta.trans (.one ?_))⟩;rw [← qA];exact step_leave_returned zE
   | panicked dx=>
    refine ⟨.panicked dx,mr,dW,.inRegion ops (i::rest)::k,.head tb (ta.trans (.one ?_))⟩;rw [← Frame.raise_atR];exact step_leave_panicked zE
   | outgrown=>exact absurd C h'
  | round l f tmps hi body=>
   obtain ⟨e,mr,dW,ta⟩:=h (b.atR a (.inRegion ops (i::rest)::k)) cs;have tb:step P (lone (b.atR a (.inRegion ops (i::rest)::k)) cs w) =
     .next (lone (Frame.round l f tmps hi body .normal) (b.atR a (.inRegion ops (i::rest)::k)::cs) w'):=
    step_lone_go (by rw [aq];simp [stepG.apply,aE,Frame.atR])
   cases e with
   | returned v=>exact ⟨.returned v,mr,dW,.head tb (by rw [← qA];exact ta)⟩
   | panicked dx=>exact ⟨.panicked dx,mr,dW,.inRegion ops (i::rest)::k,.head tb (by rw [← Frame.raise_atR];exact ta)⟩
   | outgrown=>exact ta.elim
  | _=>exact h.elim
 ·rename_i v w' aE
  refine ⟨.panicked [{ v,recovered:=false }],w',h,.inRegion ops (i::rest)::k,.one (step_lone_go ?_)⟩;rw [aq,← Frame.raise_atR];simp [stepG.apply,aE]
 ·exact h.elim
end ops
def iZ (P:Program) (ops:Array Oper) (Q:hg→Act→World→Prop):List Nat→Act→World→Prop
 | [],a,w=>Q .normal a w
 | i::rest,a,w=>
  match ops[i]? with
  | none=>iZ P ops Q rest a w
  | some o=>
   if Region.wanted o (yielded ops a.tmps) then
    gH o=true∧pK P ((execOp a.eval o).run P w) fun
     | .returned v,w'=>iZ P ops Q rest (a.put o.dst v) w'
     | .panicked dx,w'=>Q (.panic dx) a w'
     | .outgrown,_=>False
   else iZ P ops Q rest (a.put o.dst undef) w
theorem JX {P:Program} {ops:Array Oper} {Q:hg→Act→World→Prop} (b:Frame) (k:List Item) (cs:List Frame) (l:List Nat) :
  ∀ (a:Act) (w:World),iZ P ops Q l a w→∃ e c1 w',Q e c1 w'∧qy P (lone (b.atR a (.inRegion ops l::k)) cs w) b k cs e c1 w':=by
 induction l with
 | nil=>exact fun a w h=>⟨.normal,a,w,h,.one stepR_region_end⟩
 | cons i rest aW=>
  intro a w h;simp only [iZ] at h;cases ai:ops[i]? with
  | none=>
   simp only [ai] at h;obtain ⟨e,c1,w',bn,ga⟩:=aW a w h;have au:=stepR_op_skip (P:=P) (b:=b) (a:=a) (k:=k) (cs:=cs) (w:=w) (ops:=ops) (i:=i) (rest:=rest) (by simp [ai]);simp only [ai,Option.bind_none,Act.put] at au;exact ⟨e,c1,w',bn,.of_steps (.one au) ga⟩
  | some o=>
   simp only [ai] at h;by_cases hw:Region.wanted o (yielded ops a.tmps)=true
   ·simp only [hw,ag5] at h
    obtain ⟨e,w',dW,aK⟩:=Ru (b:=b) (k:=k) (cs:=cs) (rest:=rest) ai hw h.1 h.2;cases e with
    | returned v=>
     obtain ⟨e,c1,mr,bn,ga⟩:=aW _ _ dW;exact ⟨e,c1,mr,bn,.of_steps aK ga⟩
    | panicked dx=>exact ⟨.panic dx,a,w',dW,aK⟩
    | outgrown=>exact aK.elim
   ·simp only [hw,ah9,af7] at h
    obtain ⟨e,c1,w',bn,ga⟩:=aW _ _ h;have au:=stepR_op_skip (P:=P) (b:=b) (a:=a) (k:=k) (cs:=cs) (w:=w) (ops:=ops) (i:=i) (rest:=rest)
     (by simp [ai];simpa using hw)
    simp only [ai,ai'] at au;exact ⟨e,c1,w',bn,.of_steps (.one au) ga⟩
theorem Rw {P:Program} {b:Frame} {id:Nat} {ops:Array Oper} {Q:hg→Act→World→Prop} {a:Act} {w:World}
  (h:iZ P ops Q (ah8 ops.size) a w):jS P b (.region id ops false) Q a w:=
 fun k cs=>let ⟨e,c1,w',q,r⟩:=JX b k cs _ a w h;⟨e,c1,w',q,.of_steps (.one stepR_region) r⟩
theorem Rx {P:Program} {b:Frame} {id:Nat} {ops:Array Oper} {Q:hg→Act→World→Prop} {a:Act} {w:World}
  (h:∀ t,iZ P ops Q (Region.schedule (P.follows .mixedOrders) ops t) a { w with drawn:=w.drawn+1 }):jS P b (.region id ops true) Q a w:=
 fun k cs=>let ⟨e,c1,w',q,r⟩:=JX b k cs _ a _ (h _);⟨e,c1,w',q,.of_steps (.one stepR_region_draw) r⟩
def hy (w:World):List Nat→World
 | []=>w
 | d::b'=>hy { w with heap:=w.heap.setIfInBounds d (.deferred none) } b'
def marksOf (b':List Nat):List Deferred:=b'.map fun d=>{ target := .collected d,args := #[] }
theorem Fi {P:Program} {cs:List Frame}:∀ (b':List Nat) (hj:Frame) (w:World),hj.mode ≠ .run→hj.defers=marksOf b' →
  (∀ d∈b',w.heap[d]? = some (.deferred (some [])))→b'.Nodup→Steps P (lone hj cs w) (lone { hj with defers:=[] } cs (hy w b')):=by
 intro b'
 induction b' with
 | nil=>
  intro hj w _ ay _ _;have:({ hj with defers:=[] }:Frame)=hj:=by cases hj;simp_all [marksOf]
  rw [this];exact .refl P _
 | cons d b' aW=>
  intro hj w hm ay an aB;have nE:w.heap[d]? = some (.deferred (some [])):=an d (i6 ..);have aM:(Instr.takeDeferred d).run P w = .ok [] { w with heap:=w.heap.setIfInBounds d (.deferred none) }:=by
   unfold Instr.takeDeferred;simp only [aa',getObj,setObj,aw8,nE,Result.andThen];rfl
  have aa:step P (lone hj cs w) = .next (lone { hj with defers:=marksOf b' } cs { w with heap:=w.heap.setIfInBounds d (.deferred none) }):=by
   refine step_lone_go ?_;cases vQ:hj.mode with
   | run=>exact absurd vQ hm
   | returning=>simp [stepG,unwind,vQ,ay,marksOf,au5,aM]
   | panicking chain=>simp [stepG,unwind,vQ,ay,marksOf,au5,aM]
  have ez:=ar9.1 aB;refine .head aa (aW { hj with defers:=marksOf b' } _ hm C ?_ ez.2);intro c4 cg;have cP:d≠c4:=fun e=>ez.1 (e ▸ cg)
  simp only [ag6,cP,ah9];exact an c4 (i0 _ cg)
def Ry (P:Program) (fn:Func) (R:Ending→World→Prop):hg→Act→World→Prop
  | .normal,a,w | .ret,a,w=>∃ b',a.defers=marksOf b'∧b'.Nodup∧(∀ d∈b',w.heap[d]? = some (.deferred (some []))) ∧
      ∃ v,(results fn a.tmps).run P (hy w b') = .ok v (hy w b')∧R (.returned v) (hy w b')
  | .panic dx,a,w=>∃ b',a.defers=marksOf b'∧b'.Nodup∧(∀ d∈b',w.heap[d]? = some (.deferred (some [])))∧R (.panicked dx) (hy w b')
  | .exit _,_,_=>False
theorem Rz {P:Program} {f:FuncId} {fn:Func} {c:Code} {args:Array Value} {w:World} {R:Ending→World→Prop}
    (aX:P.funcs[f]? = some fn) (an:fn.body=some c)
    (h:∀ b:Frame,b.roundOf=none→(P.funcs[b.fn]?).isSome=true→jS P b c (Ry P fn R) { tmps:=args++al4 (fn.ntmps-args.size) undef,defers:=[] } w) :
    s' P f args w R:=by
  intro cs
  let b:Frame:={ (default:Frame) with fn:=f,kind := .normal,roundOf:=none }
  have tb:Frame.enter P f args .normal =
      b.atR { tmps:=args++al4 (fn.ntmps-args.size) undef,defers:=[] } [.code c]:=by
    simp [Frame.enter,Frame.atR,aX,an,b]
  obtain ⟨e,c1,w',bn,ga⟩:=h b rfl (by simp [b,aX]) [] cs;rw [← tb] at ga;cases e with
  | normal=>
    obtain ⟨b',ay,aB,kT,v,aE,dW⟩:=bn
    exact ⟨.returned v,_,_,⟨by simp,dW⟩,Steps.trans (Steps.trans ga (.one (stepR_end C)))
      (Fi b' { b.atR c1 [] with mode := .returning } w' bc ay kT aB),rfl,rfl,rfl,rfl,fn,aX,aE⟩
  | ret=>
    obtain ⟨b',ay,aB,kT,v,aE,dW⟩:=bn;obtain ⟨k₁,au⟩:=ga
    exact ⟨.returned v,_,_,⟨by simp,dW⟩,Steps.trans (Steps.trans au (.one (stepR_ret C)))
      (Fi b' { b.atR c1 (.code .ret::k₁) with mode := .returning } w' bc ay kT aB),rfl,rfl,rfl,rfl,fn,aX,aE⟩
  | panic dx=>
    obtain ⟨b',ay,aB,kT,dW⟩:=bn;obtain ⟨k₁,au⟩:=ga;exact ⟨.panicked dx,_,_,⟨by simp,dW⟩,Steps.trans au (Fi b' { b.atR c1 k₁ with mode := .panicking dx } w' bc ay kT aB),rfl,rfl,rfl,fn,aX⟩
  | exit id=>exact bn.elim
def RA (P:Program) (l:Nat) (R:Ending→World→Prop):hg→Act→World→Prop
 | .normal,_,w=>∃ v w',(Instr.endRound l none).run P w = .ok v w'∧R (.returned v) w'
 | .ret,_,w=>∃ v w',(Instr.endRound l (some .ret)).run P w = .ok v w'∧R (.returned v) w'
 | .exit id,_,w=>∃ v w',(Instr.endRound l (some (.exit id))).run P w = .ok v w'∧R (.returned v) w'
 | .panic dx,a,w=>a.defers=[]∧R (.panicked dx) w
theorem RB {P:Program} {l:Nat} {f:FuncId} {fn:Func} {tmps:Array Value} {hi body:Code} {w:World} {R:Ending→World→Prop}
  (aX:P.funcs[f]? = some fn)
  (h:∀ b:Frame,b.roundOf=some l→b.fn=f→jS P b hi (hg.andThen (fun iM w₁=>∃ hO,(Instr.beginRound l).run P w₁ = .ok () hO∧jS P b body (RA P l R) iM hO) (fun _ _ _=>False))
   { tmps:=tmps,defers:=[] } w):Round P l f tmps hi body w R:=by
 intro c cs
 let b:Frame:={ (default:Frame) with fn:=f,kind := .normal,roundOf:=some l }
 have oX:Frame.round l f tmps hi body .normal=b.atR { tmps:=tmps,defers:=[] } [.code hi,.beginRound,.code body]:=by
  simp [Frame.round,Frame.atR,b]
 obtain ⟨e,iM,w₁,bn,ga⟩:=h b rfl rfl [.beginRound,.code body] (c::cs);rw [← oX] at ga;by_cases he:e = .normal
 ·subst he
  obtain ⟨hO,kd,tc⟩:=bn;have s1:=Steps.one (stepR_beginRound (P:=P) (b:=b) (a:=iM) (k:=[.code body]) (cs:=c::cs) C kd);obtain ⟨zC,Cp,iN,uw,ux⟩:=tc [] (c::cs);cases zC with
  | normal=>
   obtain ⟨v,lQ,uy,dW⟩:=uw;exact ⟨.returned v,lQ,dW,(Steps.trans ga s1).trans (Steps.trans ux (.one (stepR_round_end C C uy)))⟩
  | ret=>
   obtain ⟨v,lQ,uy,dW⟩:=uw;obtain ⟨k₁,au⟩:=ux;exact ⟨.returned v,lQ,dW,(Steps.trans ga s1).trans (Steps.trans au (.one (stepR_round_ret C C uy)))⟩
  | exit id=>
   obtain ⟨v,lQ,uy,dW⟩:=uw;obtain ⟨k₁,aA,au⟩:=ux.2 rfl;exact ⟨.returned v,lQ,dW,(Steps.trans ga s1).trans (Steps.trans au (.one (stepR_round_exit C C aA uy)))⟩
  | panic dx=>
   obtain ⟨ay,dW⟩:=uw;obtain ⟨k₁,au⟩:=ux;refine ⟨.panicked dx,iN,dW,(Steps.trans ga s1).trans (Steps.trans au (.one ?_))⟩;exact step_lone_go (by simp [stepG,unwind,Frame.catches,Frame.atR,ay,b,aX])
 ·cases e<;>first|exact absurd C he|exact bn.elim
inductive bV where
 | nil
 | clip
 | bd
 | own (b:Nat)
 deriving DecidableEq
inductive ah where
 | any
 | bool (b:Bool)
 | int (k:IntKind) (n:Int)
 | str (s:List UInt8)
 | qB
 | ptr (b o:Nat)
 | bA (cells:List ah) (off:Nat)
 | mu (b:Nat) (cells:List ah)
 | aG (sz:Nat) (xs:List ah) (own:bV)
 | Cq (b n:Nat)
 | td
 | map (b:Nat)
 | func (f:FuncId) (first cap:List ah)
 | hE (v:Value)
 | uz
 | iface (t:TypeId) (v:ah)
 | ob
 | agg (cells:List ah)
 | cr (vs:List ah)
abbrev bU:=Nat→Nat→Prop
def flat (vs:List Value):List Value:=vs.flatMap fun v=>v.cells.toList
def vR (w:World) (p:bU) (b o:Nat) (vs:List Value):Prop:=∀ i v,vs[i]? = some v→p b (o+i)∧w.cell? ⟨b,o+i,none⟩=some v
def _root_.Go.World.kU (w:World) (r:Nat):Option (TypeId×Nat):=
 match w.heap[r]? with
 | some (.cells c elem (0,0))=>some (elem,c.size)
 | _=>none
mutual
inductive Rel (w:World) (p:bU):Value→ah→Prop
 | any (v:Value):Rel w p v .any
 | bool (b:Bool):Rel w p (.bool b) (.bool b)
 | int (k:IntKind) (n:Int):Rel w p (.int k n) (.int k n)
 | str (b:ByteArray) (s:List UInt8) (h:b.data.toList=s):Rel w p (.string b) (.str s)
 | qB:Rel w p (.pointer none) .qB
 | ptr (b o:Nat):Rel w p (.pointer (some ⟨b,o,none⟩)) (.ptr b o)
 | bA (b base o off:Nat) (vs:List Value) (cells:List ah) (ai:o=base+off) (aD:vR w p b base vs) (aE:bH w p vs cells) :
   Rel w p (.pointer (some ⟨b,o,none⟩)) (.bA cells off)
 | mu (b:Nat) (vs:List Value) (cells:List ah) (aB:vs≠[]) (au:∃ x,w.kU b=some x) (aD:vR w p b 0 vs) (aE:bH w p vs cells):Rel w p (.pointer (some ⟨b,0,none⟩)) (.mu b cells)
 | hY (sz:Nat) (own:bV) (h:∀ b,own ≠ .own b):Rel w p (.slice none 0 0) (.aG sz [] own)
 | iA (a:Addr) (sz:Nat) (own:bV) (h:own = .bd∨own = .clip):Rel w p (.slice (some a) 0 0) (.aG sz [] own)
 | aG (g off n cap sz:Nat) (vs:List Value) (xs:List ah) (own:bV) (aB:own ≠ .nil) (aC:n=xs.length) (aD:vR w p g off (flat vs)) (aE:bH w p vs xs)
   (au:∀ v∈vs,v.cells.size=sz) (hm:n≤9223372036854775807) (aA:n≤cap) (b9:own = .clip→cap=n)
   (ai:∀ b,own = .own b→b=g∧off=0∧∃ e,w.kU g=some (e,cap*sz)):Rel w p (.slice (some ⟨g,off,none⟩) n cap) (.aG sz xs own)
 | Cq (b n cap:Nat) (hm:n≤9223372036854775807) (aA:n≤cap):Rel w p (.slice (some ⟨b,0,none⟩) n cap) (.Cq b n)
 | td:Rel w p (.map none) .td
 | map (b:Nat):Rel w p (.map (some b)) (.map b)
 | func (f:FuncId) (as cs:Array Value) (first cap:List ah) (aO:bH w p as.toList first) (aD:bH w p cs.toList cap):Rel w p (.func (.func f) as cs) (.func f first cap)
 | hE (v:Value):Rel w p v (.hE v)
 | uz:Rel w p .nilFunc .uz
 | iface (t:TypeId) (v:Value) (x:ah) (h:Rel w p v x):Rel w p (.iface t v) (.iface t x)
 | ob:Rel w p .nilIface .ob
 | agg (cs:Array Value) (xs:List ah) (h:bH w p cs.toList xs):Rel w p (.agg cs) (.agg xs)
 | cr (vs:Array Value) (xs:List ah) (h:bH w p vs.toList xs):Rel w p (.tuple vs) (.cr xs)
inductive bH (w:World) (p:bU):List Value→List ah→Prop
 | nil:bH w p [] []
 | cons (v:Value) (x:ah) (vs:List Value) (xs:List ah) (h:Rel w p v x) (t:bH w p vs xs):bH w p (v::vs) (x::xs)
end
structure de (w:World) (p:bU) (w':World) (bh:bU):Prop where
 os:w'.os=w.os
 tape:w'.tape=w.tape
 output:w'.output=w.output
 size:w.heap.size≤w'.heap.size
 lo:∀ b o,p b o→bh b o
 same:∀ b o,p b o→w'.cell? ⟨b,o,none⟩=w.cell? ⟨b,o,none⟩
 shape:∀ b x,w.kU b=some x→w'.kU b=some x
theorem de.refl (w:World) (p:bU):de w p w p:=⟨rfl,rfl,rfl,g7 _,fun _ _ h=>h,fun _ _ _=>rfl,fun _ _ h=>h⟩
theorem de.trans {w w₁ hO:World} {p p₁ jn:bU} (h:de w p w₁ p₁) (k:de w₁ p₁ hO jn):de w p hO jn:=
 ⟨k.os.trans h.os,k.tape.trans h.tape,k.output.trans h.output,an0 h.size k.size,fun b o aF=>k.lo b o (h.lo b o aF),
  fun b o aF=>(k.same b o (h.lo b o aF)).trans (h.same b o aF),fun b x ab=>k.shape b x (h.shape b x ab)⟩
theorem vR.mono {w w':World} {p bh:bU} (hle:de w p w' bh) {b o:Nat} {vs:List Value} (h:vR w p b o vs):vR w' bh b o vs:=
 fun i v ar=>let ⟨aa,ad⟩:=h i v ar;⟨hle.lo _ _ aa,(hle.same _ _ aa).trans ad⟩
mutual
theorem Rel.mono {w w':World} {p bh:bU} (hle:de w p w' bh) {v:Value} {x:ah} (h:Rel w p v x):Rel w' bh v x:=by
 cases h with
 | any v=>exact .any v
 | bool b=>exact .bool b
 | int k n=>exact .int k n
 | str b s h=>exact .str b s h
 | qB=>exact .qB
 | ptr b o=>exact .ptr b o
 | bA b base o off vs cells ai aD aE=>exact .bA b base o off vs cells ai (aD.mono hle) (aE.mono hle)
 | mu b vs cells aB au aD aE=>exact .mu b vs cells aB (au.imp fun x h=>hle.shape _ _ h) (aD.mono hle) (aE.mono hle)
 | hY sz own h=>exact .hY sz own h
 | iA a sz own h=>exact .iA a sz own h
 | aG g off n cap sz vs xs own aB aC aD aE au hm aA b9 ai=>
  exact .aG g off n cap sz vs xs own aB aC (aD.mono hle) (aE.mono hle) au hm aA b9 (fun b an=>let ⟨aa,ad,e,aj⟩:=ai b an;⟨aa,ad,e,hle.shape _ _ aj⟩)
 | Cq b n cap hm aA=>exact .Cq b n cap hm aA
 | td=>exact .td
 | map b=>exact .map b
 | func f as cs first cap aO aD=>exact .func f as cs first cap (aO.mono hle) (aD.mono hle)
 | hE v=>exact .hE v
 | uz=>exact .uz
 | iface t v x h=>exact .iface t v x (h.mono hle)
 | ob=>exact .ob
 | agg cs xs h=>exact .agg cs xs (h.mono hle)
 | cr vs xs h=>exact .cr vs xs (h.mono hle)
theorem bH.mono {w w':World} {p bh:bU} (hle:de w p w' bh) {vs:List Value} {xs:List ah} (h:bH w p vs xs):bH w' bh vs xs:=by
 cases h with
 | nil=>exact .nil
 | cons v x vs xs h t=>exact .cons v x vs xs (h.mono hle) (t.mono hle)
end
section RC
variable {w:World} {p:bU}
theorem bH.length {vs:List Value} {xs:List ah} (h:bH w p vs xs):vs.length=xs.length:=by
 induction vs generalizing xs with
 | nil=>cases h;rfl
 | cons v vs aW=>cases h with|cons _ x _ xs h t=>simp [aW t]
theorem bH.get {vs:List Value} {xs:List ah} (h:bH w p vs xs) {i:Nat} {x:ah} (ab:xs[i]? = some x):∃ v,vs[i]? = some v∧Rel w p v x:=by
 induction vs generalizing xs i with
 | nil=>cases h;simp at ab
 | cons v vs aW=>
  cases h with
  | cons _ y _ ys h t=>
   cases i with
   | zero=>simp at ab;subst ab;exact ⟨v,rfl,h⟩
   | succ i=>simp at ab;obtain ⟨u,aa,ad⟩:=aW t ab;exact ⟨u,by simpa using aa,ad⟩
theorem bH.append {vs us:List Value} {xs ys:List ah} (h:bH w p vs xs) (k:bH w p us ys):bH w p (vs++us) (xs++ys):=by
 induction vs generalizing xs with
 | nil=>cases h;exact k
 | cons v vs aW=>cases h with|cons _ x _ xs h t=>exact .cons _ _ _ _ h (aW t)
theorem bH.take {vs:List Value} {xs:List ah} (h:bH w p vs xs) (n:Nat):bH w p (vs.take n) (xs.take n):=by
  induction vs generalizing xs n with
  | nil=>cases h;simp;exact .nil
  | cons v vs aW=>
    cases h with
    | cons _ x _ xs h t=>cases n with
      | zero=>exact .nil
      | succ n=>exact .cons _ _ _ _ h (aW t n)
theorem bH.drop {vs:List Value} {xs:List ah} (h:bH w p vs xs) (n:Nat):bH w p (vs.drop n) (xs.drop n):=by
  induction vs generalizing xs n with
  | nil=>cases h;simp;exact .nil
  | cons v vs aW=>
    cases h with
    | cons _ x _ xs h t=>cases n with
      | zero=>exact .cons _ _ _ _ h t
      | succ n=>exact aW t n
theorem bH.set {vs:List Value} {xs:List ah} (h:bH w p vs xs) (i:Nat) {v:Value} {x:ah} (ar:Rel w p v x):bH w p (vs.set i v) (xs.set i x):=by
  induction vs generalizing xs i with
  | nil=>cases h;exact .nil
  | cons u vs aW=>
    cases h with
    | cons _ y _ ys h t=>cases i with
      | zero=>exact .cons _ _ _ _ ar t
      | succ i=>exact .cons _ _ _ _ h (aW t i)
theorem bH.replicate {v:Value} {x:ah} (h:Rel w p v x) (n:Nat):bH w p (H1 n v) (H1 n x):=by
 induction n with
 | zero=>exact .nil
 | succ n aW=>exact .cons _ _ _ _ h aW
end RC
abbrev Env:=List (Nat×ah)
def Env.get? : Env→Nat→Option ah
 | [],_=>none
 | (t,v)::e,n=>if af2 t n then some v else Env.get? e n
inductive dy where
 | box (t:TypeId) (cells:List ah)
 | row (t:TypeId) (sz n:Nat)
 | map (es:List (ah×ah))
 | lp (es:List (ah×ah)) (it:Nat) (left:List (ah×ah)) (cur:Option (ah×ah))
 | tick (m:Nat)
 | loop (r:Loop) (env:Env)
abbrev ao:=Nat→Option dy
def lR (w:World) (p:bU) (cQ:List MapEntry) (es:List (ah×ah)):Prop:=
 bH w p (cQ.map (·.key)) (es.map (·.1))∧bH w p (cQ.map (·.val)) (es.map (·.2))
def qC (w:World) (p:bU) (b:Nat):dy→Prop
  | .box t cs=>∃ vs:Array Value,w.heap[b]? = some (.cells vs t (0,0))∧bH w p vs.toList cs∧∀ o,¬ p b o
  | .row t sz n=>∃ cur:Array Value,w.heap[b]? = some (.cells cur t (0,0))∧n*sz≤cur.size∧(∃ cap,cur.size=cap*sz)∧∀ o,p b o↔o<n*sz
  | .map es=>∃ cQ clock,w.heap[b]? = some (.map cQ clock)∧lR w p cQ.toList es∧(∀ e∈cQ.toList,e.born<clock)∧(cQ.toList.map (·.born)).Nodup
  | .lp es it left cur=>∃ (cQ:Array MapEntry) (clock:Nat) (seen:Array Nat),w.heap[b]? = some (.map cQ clock)∧w.heap[it]? = some (.mapIter (some b) clock seen clock)∧lR w p cQ.toList es ∧
      (∀ e∈cQ.toList,e.born<clock)∧(cQ.toList.map (·.born)).Nodup∧lR w p (cQ.toList.filter fun e => !seen.contains e.born) left ∧
      ∀ k v,cur=some (k,v)→∃ JY e,seen.back? = some JY∧cQ.find? (·.born==JY)=some e∧Rel w p e.key k∧Rel w p e.val v
  | .tick m=>∃ since seen last,w.heap[b]? = some (.mapIter (some m) since seen last)
  | .loop r env=>w.heap[b]? = some (.loop r)∧∀ t v,env.get? t=some v→Rel w p (r.tmps.getD t undef) v
structure dq (w:World) (p:bU) (s:ao):Prop where
 obj:∀ b o,s b=some o→qC w p b o
 lt:∀ b o,p b o→b<w.heap.size
theorem qC.qD {w w':World} {p bh:bU} {b it:Nat} {es left:List (ah×ah)} {cur:Option (ah×ah)} (h:qC w p b (.lp es it left cur)) (hle:de w p w' bh) (an:w'.heap[b]? = w.heap[b]?) (aS:w'.heap[it]? = w.heap[it]?) :
  qC w' bh b (.lp es it left cur):=by
 obtain ⟨cQ,clock,seen,aa,ad,aj,a8,bB,gp,ia⟩:=h;exact ⟨cQ,clock,seen,an.trans aa,aS.trans ad,⟨aj.1.mono hle,aj.2.mono hle⟩,a8,bB,⟨gp.1.mono hle,gp.2.mono hle⟩,fun k v aD=>let ⟨st,e,df,a2,a3,a4⟩:=ia k v aD;⟨st,e,df,a2,a3.mono hle,a4.mono hle⟩⟩
theorem qC.zF {w:World} {p:bU} {b it d:Nat} {es left:List (ah×ah)} {cur:Option (ah×ah)} (h:qC w p b (.lp es it left cur)) {o:Obj} (ay:w.heap[d]? = some o) (ai:∀ m a s l,o ≠ .mapIter m a s l):it≠d:=by
 obtain ⟨cQ,clock,seen,aa,ad,aj⟩:=h;intro e;subst e;rw [ay] at ad;cases ad;exact ai _ _ _ _ C
structure Kept (s ak:ao) (w:World) (p:bU) (w':World) (bh:bU):Prop where
 heap:∀ b,b<w.heap.size→s b=none→w'.heap[b]? = w.heap[b]?
 kV:∀ b,b<w.heap.size→s b=none→ak b=none
 lo:∀ b o,b<w.heap.size→s b=none→bh b o→p b o
theorem Kept.refl (s:ao) (w:World) (p:bU):Kept s s w p w p:=⟨fun _ _ _=>rfl,fun _ _ h=>h,fun _ _ _ _ h=>h⟩
theorem Kept.trans {s s₁ dC:ao} {w w₁ hO:World} {p p₁ jn:bU} (au:w.heap.size≤w₁.heap.size) (h:Kept s s₁ w p w₁ p₁) (k:Kept s₁ dC w₁ p₁ hO jn):Kept s dC w p hO jn:=
  ⟨fun b an aB=>(k.heap b (aj7 an au) (h.kV b an aB)).trans (h.heap b an aB),
   fun b an aB=>k.kV b (aj7 an au) (h.kV b an aB),
   fun b o an aB aF=>h.lo b o an aB (k.lo b o (aj7 an au) (h.kV b an aB) aF)⟩
def x1:Value→Option ah
 | .bool b=>some (.bool b)
 | .int k n=>some (.int k n)
 | .string s=>some (.str s.data.toList)
 | .pointer none=>some .qB
 | .slice none 0 0=>some (.aG 0 [] .nil)
 | .map none=>some .td
 | .nilFunc=>some .uz
 | .nilIface=>some .ob
 | .tuple vs=>if vs.isEmpty then some (.cr []) else none
 | _=>none
def aN (env:Env):Operand→Option ah
 | .tmp t=>env.get? t
 | .const v=>x1 v
 | .func f=>some (.func f [] [])
 | .global _=>none
theorem Fj {w:World} {p:bU} {v:Value} {x:ah} (h:x1 v=some x):Rel w p v x:=by
 unfold x1 at h;split at h<;>first|(cases h;done)|(cases h;first|exact .bool _|exact .int _ _|exact .str _ _ C|exact .qB|exact .hY _ _ (fun _=>by simp)|exact .td|exact .uz|exact .ob)|skip
 rename_i vs;split at h
 ·rename_i he
  cases h;have:vs = #[]:=by simpa using he
  subst this;exact .cr _ _ .nil
 ·cases h
abbrev fQ:=Nat×List Deferred
structure dw (N:Nat) (B:fQ) (ro:Option Nat) (env:Env) (s:ao) (a:Act) (w:World) (p:bU):Prop where
 size:a.tmps.size=N
 env:∀ t v,env.get? t=some v→Rel w p (a.tmps.getD t undef) v
 wf:dq w p s
 defs:∃ b',a.defers=marksOf b'++B.2∧b'.Nodup∧∀ d∈b',B.1≤d∧w.heap[d]? = some (.deferred (some []))∧s d=none
 round:∀ l,ro=some l→a.defers=[]∧(∃ r,w.heap[l]? = some (.loop r))∧s l=none
 base:B.1≤w.heap.size
theorem dw.aN {N:Nat} {B:fQ} {ro:Option Nat} {env:Env} {s:ao} {a:Act} {w:World} {p:bU} (h:dw N B ro env s a w p) {o:Operand} {x:ah} (ab:aN env o=some x) :
  Rel w p (a.eval o) x:=by
 cases o with
 | tmp t=>exact h.env t x ab
 | const v=>exact Fj ab
 | func f=>simp [Go.Proofs.YtnafpeohfbglmaaGreat.aN] at ab;subst ab;exact .func f #[] #[] [] [] .nil .nil
 | global g=>simp [Go.Proofs.YtnafpeohfbglmaaGreat.aN] at ab
theorem dw.step {N:Nat} {B:fQ} {ro:Option Nat} {env:Env} {s ak:ao} {a:Act} {w w':World} {p bh:bU} (h:dw N B ro env s a w p)
  (hle:de w p w' bh) (aA:Kept s ak w p w' bh) (ca:dq w' bh ak):dw N B ro env ak a w' bh:=by
 obtain ⟨b',aa,ad,aj⟩:=h.defs;refine ⟨h.size,fun t v ar=>(h.env t v ar).mono hle,ca,⟨b',aa,ad,fun d ay=>?_⟩,fun l aC=>?_,an0 h.base hle.size⟩
 ·obtain ⟨cM,nE,au⟩:=aj d ay
  have az:d<w.heap.size:=(t8.1 nE).1;exact ⟨cM,(aA.heap d az au).trans nE,aA.kV d az au⟩
 ·obtain ⟨ay,⟨r,aE⟩,au⟩:=h.round l aC
  have az:l<w.heap.size:=(t8.1 aE).1;exact ⟨ay,⟨r,(aA.heap l az au).trans aE⟩,aA.kV l az au⟩
theorem dw.put {N:Nat} {B:fQ} {ro:Option Nat} {env:Env} {s:ao} {a:Act} {w:World} {p:bU} (h:dw N B ro env s a w p) {d:Nat} (ay:d<N) {v:Value} {x:ah}
  (ar:Rel w p v x):dw N B ro ((d,x)::env) s (a.put (some d) v) w p:=by
 refine ⟨by simp [Act.put,h.size],fun t y ax=>?_,h.wf,h.defs,h.round,h.base⟩;simp only [Env.get?] at ax;split at ax
 ·rename_i he
  have vS:d=t:=ad' he;cases ax;subst vS;have cg:d<a.tmps.size:=h.size.symm ▸ ay;simpa [Act.put,ag1,ag6,cg] using ar
 ·rename_i he
  have vS:d≠t:=fun e=>he (by subst e;simp)
  have:=h.env t y ax;simpa [Act.put,ag1,ag6,vS] using this
inductive b3 where
 | normal
 | exit (id:Nat)
 | ret
 | panic (v:ah)
def x2 (v:Value) (dx:List PanicEntry):Prop:=∃ rest,dx={ v,recovered:=false }::rest∧∀ e∈rest,e.goexit=false
theorem x2.one (v:Value):x2 v [{ v,recovered:=false }]:=⟨[],rfl,fun _ h=>by cases h⟩
inductive x3 (w:World) (p:bU):hg→b3→Prop
 | normal:x3 w p .normal .normal
 | exit (id:Nat):x3 w p (.exit id) (.exit id)
 | ret:x3 w p .ret .ret
 | panic (v:Value) (x:ah) (dx:List PanicEntry) (aD:x2 v dx) (h:Rel w p v x):x3 w p (.panic dx) (.panic x)
def kx (N:Nat) (B:fQ) (ro:Option Nat) (s:ao) (w:World) (p:bU) (Q:b3→Env→ao→Prop) (e:hg) (c1:Act) (w':World):Prop:=
 ∃ x eU ak bh,x3 w' bh e x∧Q x eU ak∧dw N B ro eU ak c1 w' bh∧de w p w' bh∧Kept s ak w p w' bh
theorem kx.after {N:Nat} {B:fQ} {ro:Option Nat} {s s₁:ao} {w w₁ w':World} {p p₁:bU} {Q:b3→Env→ao→Prop} {e:hg} {c1:Act}
  (hle:de w p w₁ p₁) (aA:Kept s s₁ w p w₁ p₁) (h:kx N B ro s₁ w₁ p₁ Q e c1 w'):kx N B ro s w p Q e c1 w' :=
 let ⟨x,eU,ak,bh,aa,ad,aj,a8,bB⟩:=h
 ⟨x,eU,ak,bh,aa,ad,aj,hle.trans a8,aA.trans hle.size bB⟩
def af (P:Program) (N:Nat) (c:Code) (Q:b3→Env→ao→Prop) (env:Env) (s:ao):Prop:=
 ∀ (b:Frame) (B:fQ) (a:Act) (w:World) (p:bU),(P.funcs[b.fn]?).isSome=true→dw N B b.roundOf env s a w p→jS P b c (kx N B b.roundOf s w p Q) a w
section RD
variable {P:Program} {N:Nat} {Q:b3→Env→ao→Prop} {env:Env} {s:ao}
theorem af.mono {c:Code} {oW:b3→Env→ao→Prop} (h:af P N c Q env s) (bn:∀ e env s,Q e env s→oW e env s):af P N c oW env s:=
 fun b B a w p eZ aK=>mq (h b B a w p eZ aK) fun _ _ _ ⟨x,eU,ak,bh,aa,ad,aj⟩=>⟨x,eU,ak,bh,aa,bn _ _ _ ad,aj⟩
theorem kx.here {B:fQ} {ro:Option Nat} {a:Act} {w:World} {p:bU} {e:hg} {x:b3} (ab:x3 w p e x) (bn:Q x env s) (h:dw N B ro env s a w p) :
  kx N B ro s w p Q e a w:=⟨x,env,s,p,ab,bn,h,.refl w p,.refl s w p⟩
theorem af.skip (h:Q .normal env s):af P N .skip Q env s:=fun _ _ _ _ _ _ aK=>Rm (.here .normal h aK)
theorem af.ret (h:Q .ret env s):af P N .ret Q env s:=fun _ _ _ _ _ _ aK=>Ro (.here .ret h aK)
theorem af.exit {id:Nat} (h:Q (.exit id) env s):af P N (.exit id) Q env s:=fun _ _ _ _ _ _ aK=>Rq (.here (.exit id) h aK)
def b3.andThen (next:Env→ao→Prop) (Q:b3→Env→ao→Prop):b3→Env→ao→Prop
 | .normal,e,s=>next e s
 | x,e,s=>Q x e s
theorem af.seq {x y:Code} (h:af P N x (b3.andThen (af P N y Q) Q) env s):af P N (.seq x y) Q env s:=by
 intro b B a w p eZ aK;refine Rr (mq (h b B a w p eZ aK) ?_);rintro e iM w₁ ⟨Cr,oY,s₁,p₁,ab,bn,lq,hle,aA⟩;cases ab with
 | normal=>exact mq (bn b B iM w₁ p₁ eZ lq) fun _ _ _ h=>h.after hle aA
 | exit id=>exact ⟨_,oY,s₁,p₁,.exit id,bn,lq,hle,aA⟩
 | ret=>exact ⟨_,oY,s₁,p₁,.ret,bn,lq,hle,aA⟩
 | panic v x dx aD ar=>exact ⟨_,oY,s₁,p₁,.panic v x dx aD ar,bn,lq,hle,aA⟩
theorem Cs {w:World} {p:bU} {v:Value} {t:Bool} (h:Rel w p v (.bool t)):v = .bool t:=by cases h;rfl
theorem af.cond {c:Operand} {x y:Code} {t:Bool} (aD:aN env c=some (.bool t)) (aM:t=true→af P N x Q env s) (aX:t=false→af P N y Q env s) :
  af P N (.cond c x y) Q env s:=by
 intro b B a w p eZ aK;refine Rs (Cs (aK.aN aD)) ?_;cases t
 ·exact aX C b B a w p eZ aK
 ·exact aM C b B a w p eZ aK
theorem af.fx {c:Operand} {x y:Code} (aD:aN env c=some (.bool true)) (h:af P N x Q env s):af P N (.cond c x y) Q env s:=af.cond aD (fun _=>h) bc
theorem af.gI {c:Operand} {x y:Code} (aD:aN env c=some (.bool false)) (h:af P N y Q env s):af P N (.cond c x y) Q env s:=af.cond aD bc (fun _=>h)
def b3.inBlock (id:Nat) (Q:b3→Env→ao→Prop):b3→Env→ao→Prop
 | .exit kS,a,w=>if af2 kS id then Q .normal a w else Q (.exit kS) a w
 | e,a,w=>Q e a w
theorem af.block {id:Nat} {c:Code} (h:af P N c (b3.inBlock id Q) env s):af P N (.block id c) Q env s:=by
 intro b B a w p eZ aK;refine Rt (mq (h b B a w p eZ aK) ?_);rintro e iM w₁ ⟨Cr,oY,s₁,p₁,ab,bn,lq,hle,aA⟩;cases ab with
 | normal=>exact ⟨_,oY,s₁,p₁,.normal,bn,lq,hle,aA⟩
 | exit kS=>
  by_cases s9:kS=id
  ·simp only [b3.inBlock,s9,at7,ag5] at bn
   simp only [hg.inBlock,s9,ag5];exact ⟨_,oY,s₁,p₁,.normal,bn,lq,hle,aA⟩
  ·have an:af2 kS id=false:=by
    cases RE:af2 kS id with
    | false=>rfl
    | true=>exact absurd (ad' RE) s9
   simp only [b3.inBlock,an,ah9,af7] at bn;simp only [hg.inBlock,s9,ah9];exact ⟨_,oY,s₁,p₁,.exit kS,bn,lq,hle,aA⟩
 | ret=>exact ⟨_,oY,s₁,p₁,.ret,bn,lq,hle,aA⟩
 | panic v x dx aD ar=>exact ⟨_,oY,s₁,p₁,.panic v x dx aD ar,bn,lq,hle,aA⟩
def aZ (x y:ah):Prop:=∀ w p v,Rel w p v x→Rel w p v y
theorem aZ.refl (x:ah):aZ x x:=fun _ _ _ h=>h
def Env.Sub:Env→Env→Prop
 | [],_=>True
 | (t,v)::e,env=>(∃ fy,env.get? t=some fy∧aZ fy v)∧Env.Sub e env
theorem Env.Sub.get {e env:Env} (h:Env.Sub e env) {t:Nat} {v:ah} (ar:e.get? t=some v):∃ fy,env.get? t=some fy∧aZ fy v:=by
 induction e with
 | nil=>simp [Env.get?] at ar
 | cons x e aW=>
  obtain ⟨bP,fy⟩:=x;simp only [Env.get?] at ar;split at ar
  ·rename_i he
   have vS:bP=t:=ad' he;cases ar;subst vS;exact h.1
  ·exact aW h.2 ar
theorem dw.sub {B:fQ} {ro:Option Nat} {e:Env} {a:Act} {w:World} {p:bU} (au:Env.Sub e env) (h:dw N B ro env s a w p):dw N B ro e s a w p:=
 ⟨h.size,fun t v ar=>let ⟨fy,aa,ad⟩:=au.get ar;ad _ _ _ (h.env t fy aa),h.wf,h.defs,h.round,h.base⟩
theorem af.sub {c:Code} (e:Env) (au:Env.Sub e env) (h:af P N c Q e s):af P N c Q env s:=
 fun b B a w p eZ aK=>h b B a w p eZ (aK.sub au)
def ao.Sub (ak s:ao):Prop:=∀ b,ak b=s b∨ak b=none
theorem dq.sub {ak:ao} {w:World} {p:bU} (au:ao.Sub ak s) (h:dq w p s):dq w p ak :=
 ⟨fun b o an=>h.obj b o (by rcases au b with e|e<;>simp_all),h.lt⟩
theorem ao.Sub.none {ak:ao} (au:ao.Sub ak s) {b:Nat} (h:s b=none):ak b=none:=by rcases au b with e|e<;>simp_all
theorem Kept.x4 {ak eL:ao} (au:ao.Sub ak s) {w w':World} {p bh:bU} (h:Kept ak eL w p w' bh):Kept s eL w p w' bh :=
 ⟨fun b an aB=>h.heap b an (au.none aB),fun b an aB=>h.kV b an (au.none aB),fun b o an aB=>h.lo b o an (au.none aB)⟩
theorem dw.Fk {B:fQ} {ro:Option Nat} {ak:ao} {a:Act} {w:World} {p:bU} (au:ao.Sub ak s) (h:dw N B ro env s a w p):dw N B ro env ak a w p:=by
 obtain ⟨b',aa,ad,aj⟩:=h.defs;exact ⟨h.size,h.env,h.wf.sub au,⟨b',aa,ad,fun d ay=>let ⟨a,b,c⟩:=aj d ay;⟨a,b,au.none c⟩⟩,fun l aC=>let ⟨a,b,c⟩:=h.round l aC;⟨a,b,au.none c⟩,h.base⟩
theorem af.drop {c:Code} (ak:ao) (au:ao.Sub ak s) (h:af P N c Q env ak):af P N c Q env s:=
 fun b B a w p eZ aK=>mq (h b B a w p eZ (aK.Fk au)) fun _ _ _ ⟨x,eU,eL,bh,aa,ad,aj,a8,bB⟩=>⟨x,eU,eL,bh,aa,ad,aj,a8,bB.x4 au⟩
theorem af.loop {σ:Type} {c:Code} (E:σ→Env) (S:σ→ao) (aeo:σ→Prop) (μ:σ→Nat) (oc:σ) (aw:aeo oc) (e0:Env.Sub (E oc) env) (b8:ao.Sub (S oc) s)
  (round:∀ x,aeo x→af P N c (b3.andThen (fun eU ak=>∃ y,aeo y∧Env.Sub (E y) eU∧ao.Sub (S y) ak∧μ y<μ x) Q) (E x) (S x)):af P N (.loop c) Q env s:=by
 refine af.sub _ e0 (af.drop _ b8 ?_);intro b B a w p eZ aK;have key:∀ n x a w p,μ x=n→aeo x→dw N B b.roundOf (E x) (S x) a w p→∀ k cs,∃ e c1 w',kx N B b.roundOf (S x) w p Q e c1 w' ∧
   qy P (lone (b.atR a (.code c :: .inLoop c::k)) cs w) b k cs e c1 w':=by
  intro n
  induction n using av0 with
  | _ n aW=>
   intro x a w p aB ab aK k cs;obtain ⟨e,iM,w₁,⟨Cr,oY,s₁,p₁,Fl,bn,lq,hle,aA⟩,ga⟩:=round x ab b B a w p eZ aK (.inLoop c::k) cs;by_cases he:e = .normal
   ·subst he
    cases Fl;obtain ⟨y,ax,fR,JZ,az⟩:=bn;obtain ⟨zC,Cp,hO,uw,ux⟩:=aW (μ y) (aB ▸ az) y iM w₁ p₁ rfl ax ((lq.sub fR).Fk JZ) k cs;refine ⟨zC,Cp,hO,kx.after hle aA ?_,.of_steps (Steps.trans ga (.one stepR_inLoop)) ux⟩;obtain ⟨qE,eU,eL,bh,aa,ad,aj,a8,bB⟩:=uw;exact ⟨qE,eU,eL,bh,aa,ad,aj,a8,bB.x4 JZ⟩
   ·have qz:kx N B b.roundOf (S x) w p Q e iM w₁:=by
     refine ⟨Cr,oY,s₁,p₁,Fl,?_,lq,hle,aA⟩;cases Fl<;>first|exact absurd C he|exact bn
    exact ⟨e,iM,w₁,qz,qy.JW (c:=c) (.inLoop c) C he ga⟩
 intro k cs;obtain ⟨e,c1,w',bn,ga⟩:=key _ oc a w p rfl aw aK k cs;exact ⟨e,c1,w',bn,.of_steps (.one stepR_loop) ga⟩
end RD
def a6 (P:Program) (N:Nat) (o:Oper) (env:Env) (s:ao) (K X:ah→ao→Prop):Prop:=
 gH o=true∧∀ ro B a w p,dw N B ro env s a w p→pK P ((execOp a.eval o).run P w) fun e w'=>∃ ak bh,de w p w' bh∧Kept s ak w p w' bh∧dq w' bh ak ∧
  match e with
  | .returned v=>∃ x,K x ak∧Rel w' bh v x
  | .panicked dx=>∃ v x,x2 v dx∧X x ak∧Rel w' bh v x
  | .outgrown=>False
theorem a6.mono {P:Program} {N:Nat} {o:Oper} {env:Env} {s:ao} {K X aQ nF:ah→ao→Prop} (h:a6 P N o env s K X)
  (aA:∀ x s,K x s→aQ x s) (ab:∀ x s,X x s→nF x s):a6 P N o env s aQ nF :=
 ⟨h.1,fun ro B a w p aK=>(h.2 ro B a w p aK).mono fun e w' ⟨ak,bh,aa,ad,aj,a8⟩=>⟨ak,bh,aa,ad,aj,by
  cases e with
  | returned v=>obtain ⟨x,ab,aE⟩:=a8;exact ⟨x,aA _ _ ab,aE⟩
  | panicked dx=>obtain ⟨v,x,aD,iB,aE⟩:=a8;exact ⟨v,x,aD,ab _ _ iB,aE⟩
  | outgrown=>exact a8⟩⟩
def guardOf (ops:Array Oper) (env:Env) (o:Oper):Option Bool:=
  match o.guard with
  | none=>some true
  | some (j,want)=>
    match (ops[j]?).bind (·.dst) with
    | none=>some false
    | some d=>match env.get? d with
      | some (.bool b)=>some (match want with|true=>b|false => !b)
      | some (.cr [])=>some false
      | _=>none
theorem RF {w:World} {p:bU} {v:Value} (h:Rel w p v (.cr [])):v = .tuple #[]:=by
 cases h with
 | cr vs _ h=>have:=h.length;simp at this;rw [this]
theorem vT {N:Nat} {B:fQ} {ro:Option Nat} {env:Env} {s:ao} {a:Act} {w:World} {p:bU} (aK:dw N B ro env s a w p) {ops:Array Oper} {o:Oper} {g:Bool}
  (h:guardOf ops env o=some g):Region.wanted o (yielded ops a.tmps)=g:=by
 unfold guardOf at h;unfold Region.wanted;split at h
 ·rename_i aq;simp only [aq];cases h;rfl
 ·rename_i j want aq
  simp only [aq];split at h
  ·rename_i ay
   cases h;simp [yielded,ay]
  ·rename_i d ay
   split at h
   ·rename_i b an
    have aE:=aK.env d _ an;have ar:=Cs aE;cases h;have ax:yielded ops a.tmps j=some b:=by
     unfold yielded;have:a.tmps[d]? = some (.bool b):=by
      rw [ag1] at ar;cases ab:a.tmps[d]? with
      | none=>rw [ab] at ar;simp [undef] at ar
      | some v=>rw [ab] at ar;simpa using ar
     simp [ay,this]
    rw [ax];cases want<;>cases b<;>rfl
   ·rename_i an
    cases h;have aE:=aK.env d _ an;have ar:a.tmps.getD d undef = .tuple #[]:=by
     generalize J0:a.tmps.getD d undef=v at aE;exact RF aE
    have ax:yielded ops a.tmps j=none:=by
     unfold yielded;rw [ag1] at ar;simp only [ay,ai'];cases ab:a.tmps[d]? with
     | none=>rfl
     | some v=>rw [ab] at ar;simp at ar;subst ar;rfl
    rw [ax];rfl
   ·cases h
def fI (P:Program) (N:Nat) (ops:Array Oper) (l:List Nat) (Q:b3→Env→ao→Prop) (env:Env) (s:ao):Prop:=
 ∀ ro B a w p,dw N B ro env s a w p→iZ P ops (kx N B ro s w p Q) l a w
section rw
variable {P:Program} {N:Nat} {ops:Array Oper} {Q:b3→Env→ao→Prop} {env:Env} {s:ao}
theorem af.region {id:Nat} (h:fI P N ops (ah8 ops.size) Q env s):af P N (.region id ops false) Q env s:=
 fun b B a w p _ aK=>Rw (h b.roundOf B a w p aK)
theorem fI.nil (h:Q .normal env s):fI P N ops [] Q env s:=fun _ _ _ _ _ aK => .here .normal h aK
theorem vU {Q oW:hg→Act→World→Prop} (bn:∀ e a w,Q e a w→oW e a w):∀ (l:List Nat) (a:Act) (w:World),iZ P ops Q l a w→iZ P ops oW l a w:=by
 intro l
 induction l with
 | nil=>exact fun a w h=>bn _ _ _ h
 | cons i rest aW=>
  intro a w h;simp only [iZ] at h ⊢;split at h
  ·rename_i ai;exact aW _ _ h
  ·rename_i o ai
   split at h
   ·rename_i hw
    rw [f7 hw];exact ⟨h.1,h.2.mono fun e w' he=>by cases e<;>first|exact aW _ _ he|exact bn _ _ _ he|exact he⟩
   ·rename_i hw
    rw [d7 hw];exact aW _ _ h
theorem fI.after {l:List Nat} {s₁:ao} {ro:Option Nat} {B:fQ} {a:Act} {w w₁:World} {p p₁:bU} {Fm:Env}
  (hle:de w p w₁ p₁) (aA:Kept s s₁ w p w₁ p₁) (h:fI P N ops l Q Fm s₁) (aK:dw N B ro Fm s₁ a w₁ p₁):iZ P ops (kx N B ro s w p Q) l a w₁:=
 vU (fun _ _ _ q=>q.after hle aA) l a w₁ (h ro B a w₁ p₁ aK)
theorem fI.op {i:Nat} {l:List Nat} {o:Oper} {d:Nat} {K X:ah→ao→Prop} (ai:ops[i]? = some o) (aq:guardOf ops env o=some true) (ay:o.dst=some d)
  (a1:z2 d N=true) (h:a6 P N o env s K X) (aA:∀ x ak,K x ak→fI P N ops l Q ((d,x)::env) ak) (ab:∀ x ak,X x ak→Q (.panic x) env ak) :
  fI P N ops (i::l) Q env s:=by
 intro ro B a w p aK;have nG:d<N:=by simpa [an7] using a1
 simp only [iZ,ai,vT aK aq,ag5];refine ⟨h.1,(h.2 ro B a w p aK).mono ?_⟩;rintro e w' ⟨ak,bh,hle,lS,ca,he⟩;cases e with
 | returned v=>
  obtain ⟨x,bk,aE⟩:=he;rw [ay];exact fI.after hle lS (aA x ak bk) ((aK.step hle lS ca).put nG aE)
 | panicked dx=>
  obtain ⟨v,x,kW,iB,aE⟩:=he;exact ⟨.panic x,env,ak,bh,.panic v x dx kW aE,ab x ak iB,aK.step hle lS ca,hle,lS⟩
 | outgrown=>exact he
theorem fI.vV {i:Nat} {l:List Nat} {o:Oper} {K X:ah→ao→Prop} (ai:ops[i]? = some o) (aq:guardOf ops env o=some true) (ay:o.dst=none)
  (h:a6 P N o env s K X) (aA:∀ x ak,K x ak→fI P N ops l Q env ak) (ab:∀ x ak,X x ak→Q (.panic x) env ak) :
  fI P N ops (i::l) Q env s:=by
 intro ro B a w p aK;simp only [iZ,ai,vT aK aq,ag5];refine ⟨h.1,(h.2 ro B a w p aK).mono ?_⟩;rintro e w' ⟨ak,bh,hle,lS,ca,he⟩;cases e with
 | returned v=>
  obtain ⟨x,bk,aE⟩:=he;rw [ay];exact fI.after hle lS (aA x ak bk) (aK.step hle lS ca)
 | panicked dx=>
  obtain ⟨v,x,kW,iB,aE⟩:=he;exact ⟨.panic x,env,ak,bh,.panic v x dx kW aE,ab x ak iB,aK.step hle lS ca,hle,lS⟩
 | outgrown=>exact he
theorem Fo {w:World} {p:bU}:Rel w p undef (.cr []) := .cr #[] [] .nil
theorem fI.skip {i:Nat} {l:List Nat} {o:Oper} {d:Nat} (ai:ops[i]? = some o) (aq:guardOf ops env o=some false) (ay:o.dst=some d) (a1:z2 d N=true)
  (h:fI P N ops l Q ((d,.cr [])::env) s):fI P N ops (i::l) Q env s:=by
 intro ro B a w p aK;have nG:d<N:=by simpa [an7] using a1
 simp only [iZ,ai,vT aK aq,ah9,af7,ay];exact h ro B _ w p (aK.put nG Fo)
end rw
theorem dq.grow {w w':World} {p bh:bU} {s:ao} (hle:de w p w' bh) (cN:∀ b,b<w.heap.size→w'.heap[b]? = w.heap[b]?)
  (aF:∀ b o,b<w.heap.size→bh b o→p b o) (az:∀ b o,bh b o→b<w'.heap.size) (h:dq w p s):dq w' bh s:=by
 refine ⟨fun b o an=>?_,az⟩;have ai:=h.obj b o an;cases o with
 | box t cs=>
  obtain ⟨vs,aa,ad,aj⟩:=ai;have te:b<w.heap.size:=(t8.1 aa).1;exact ⟨vs,(cN b te).trans aa,ad.mono hle,fun o fa=>aj o (aF b o te fa)⟩
 | row t sz n=>
  obtain ⟨cur,aa,ad,aj,a8⟩:=ai;have te:b<w.heap.size:=(t8.1 aa).1;exact ⟨cur,(cN b te).trans aa,ad,aj,fun o=>⟨fun fa=>(a8 o).1 (aF b o te fa),fun aB=>hle.lo _ _ ((a8 o).2 aB)⟩⟩
 | map es=>
  obtain ⟨cQ,clock,aa,ad,aj,a8⟩:=ai;have te:b<w.heap.size:=(t8.1 aa).1;exact ⟨cQ,clock,(cN b te).trans aa,⟨ad.1.mono hle,ad.2.mono hle⟩,aj,a8⟩
 | lp es it left cur=>
  obtain ⟨cQ,clock,seen,aa,ad,-⟩:=id ai;exact ai.qD hle (cN b (t8.1 aa).1) (cN it (t8.1 ad).1)
 | tick m=>obtain ⟨df,a2,a3,aa⟩:=ai;exact ⟨df,a2,a3,(cN b (t8.1 aa).1).trans aa⟩
 | loop r env=>exact ⟨(cN b (t8.1 ai.1).1).trans ai.1,fun t v h=>(ai.2 t v h).mono hle⟩
theorem mv (w:World) (o:Obj) (b:Nat) (h:b<w.heap.size):(w.alloc o).heap[b]? = w.heap[b]?:=by
 show (w.heap.push o)[b]? = _;rw [az',d7 ag]
theorem uA (w:World) (o:Obj):(w.alloc o).heap[w.heap.size]? = some o:=by
 show (w.heap.push o)[w.heap.size]? = _;rw [az',f7 C]
theorem x5 {w w':World} {b:Nat} (h:w'.heap[b]? = w.heap[b]?):w'.kU b=w.kU b:=by simp [World.kU,h]
theorem x6 {w w':World} {b o:Nat} (h:w'.heap[b]? = w.heap[b]?):w'.cell? ⟨b,o,none⟩=w.cell? ⟨b,o,none⟩:=by simp [World.cell?,h]
theorem RG {w:World} {b:Nat} {x:TypeId×Nat} (h:w.kU b=some x):b<w.heap.size:=by
 unfold World.kU at h;split at h
 ·rename_i cN;exact (t8.1 cN).1
 ·cases h
theorem de.of_heap {w w':World} {p bh:bU} (ai:w'.os=w.os) (aM:w'.tape=w.tape) (hu:w'.output=w.output) (au:w.heap.size≤w'.heap.size)
  (aF:∀ b o,p b o→bh b o) (az:∀ b o,p b o→b<w.heap.size) (cN:∀ b,b<w.heap.size→w'.heap[b]? = w.heap[b]?):de w p w' bh :=
 ⟨ai,aM,hu,au,aF,fun b o an=>x6 (cN b (az b o an)),fun b x ab=>by rw [x5 (cN b (RG ab))];exact ab⟩
def bU.dX (p:bU) (b:Nat) (c:Prop):bU:=fun aY o=>p aY o∨(aY=b∧c)
section alloc
variable {w:World} {p:bU} {s:ao}
theorem uB (az:∀ b o,p b o→b<w.heap.size) (o:Obj) (c:Prop):de w p (w.alloc o) (p.dX w.heap.size c):=
 de.of_heap C C C bc (fun _ _ h => .inl h) az (fun b an=>mv w o b an)
theorem zG (h:dq w p s) (o:Obj) (c:Prop):dq (w.alloc o) (p.dX w.heap.size c) s:=
  h.grow (uB h.lt o c) (fun b an=>mv w o b an) (fun b o an aF=>by rcases aF with aF|⟨rfl,_⟩;exact aF;omega)
    (fun b o aF=>by rcases aF with aF|⟨rfl,_⟩;have:=h.lt b o aF;simp;omega;simp)
theorem Ct (o:Obj) (c:Prop):Kept s s w p (w.alloc o) (p.dX w.heap.size c):=
 ⟨fun b an _=>mv w o b an,fun _ _ h=>h,fun b o an _ aF=>by rcases aF with aF|⟨rfl,_⟩;exact aF;omega⟩
theorem Fp (vs:List Value) (t:TypeId):vR (w.alloc (.cells vs.toArray t)) (p.dX w.heap.size True) w.heap.size 0 vs:=by
 intro i v ar;refine ⟨.inr ⟨rfl,trivial⟩,?_⟩;rw [af6];simp only [World.cell?,uA,ap',af7,ah9];simpa using ar
theorem kX:de w p w.drew p:=⟨rfl,rfl,rfl,g7 _,fun _ _ h=>h,fun _ _ _=>rfl,fun _ _ h=>h⟩
theorem x7 (h:dq w p s):dq w.drew p s:=h.grow kX (fun _ _=>rfl) (fun _ _ _ h=>h) h.lt
theorem vW:Kept s s w p w.drew p:=⟨fun _ _ _=>rfl,fun _ _ h=>h,fun _ _ _ _ h=>h⟩
end alloc
inductive tf where
 | bool
 | int (k:IntKind)
 | str
 | ptr (e:TypeId)
 | aG (e:TypeId)
 | map (k e:TypeId)
 | struct (gJ:List (Nat×TypeId))
 | iface (bare:Bool)
 | func
 | arr (n:Nat) (e:TypeId)
 | other
structure bQ where
 bL:tf
 size:Nat
 bytes:Nat
 zero:Value
def en:TypeDesc→tf
 | .bool => .bool
 | .int k => .int k
 | .string => .str
 | .pointer e => .ptr e
 | .slice e => .aG e
 | .map k e => .map k e
 | .struct gJ => .struct (gJ.toList.map fun f=>(f.offset,f.type))
 | .interface ms => .iface ms.isEmpty
 | .func .. => .func
 | .array n e => .arr n e
 | _ => .other
abbrev cw:=List (Nat×bQ)
def cw.get? : cw→Nat→Option bQ
 | [],_=>none
 | (t,v)::e,n=>if af2 t n then some v else cw.get? e n
def Fq (P:Program) (t:TypeId):Option bQ:=
  match P.info? t,P.underlying t with
  | some i,some d=>match i.zero with
    | some z=>some { bL:=en d,size:=i.size,bytes:=i.bytes,zero:=z }
    | none=>none
  | _,_=>none
def bR (P:Program) (Γ:cw):Prop:=∀ t i,Γ.get? t=some i→Fq P t=some i
theorem RH (P:Program) (Γ:cw) (h:Γ.map (fun x=>Fq P x.1)=Γ.map (fun x=>some x.2)):bR P Γ:=by
 induction Γ with
 | nil=>intro t i h;simp [cw.get?] at h
 | cons x Γ aW=>
  obtain ⟨bP,Cu⟩:=x;simp only [ae0,List.cons.injEq] at h;intro t i aq;simp only [cw.get?] at aq;split at aq
  ·rename_i he
   have:=ad' he;subst this;cases aq;exact h.1
  ·exact aW h.2 t i aq
theorem bR.parts {P:Program} {Γ:cw} (h:bR P Γ) {t:TypeId} {i:bQ} (aS:Γ.get? t=some i) :
  ∃ info d,P.info? t=some info∧P.underlying t=some d∧en d=i.bL∧info.size=i.size∧info.bytes=i.bytes∧info.zero=some i.zero:=by
 have:=h t i aS;unfold Fq at this;split at this
 ·rename_i info d aa ad
  split at this
  ·rename_i z bG
   cases this;exact ⟨info,d,aa,ad,rfl,rfl,rfl,bG⟩
  ·cases this
 ·cases this
def cellsOf:ah→Option (List ah)
 | .agg cs=>some cs
 | .any=>none
 | .hE (.func f a c)=>some [.hE (.func f a c)]
 | .hE (.slice a n c)=>some [.hE (.slice a n c)]
 | .hE _=>none
 | .cr _=>none
 | v=>some [v]
theorem qF {w:World} {p:bU} {v:Value} {x:ah} {cs:List ah} (aE:Rel w p v x) (h:cellsOf x=some cs):bH w p v.cells.toList cs:=by
 cases aE with
 | hE v=>
  cases v<;>simp [cellsOf] at h
  all_goals
   subst h;exact .cons _ _ _ _ (.hE _) .nil
 | any=>cases h
 | cr=>cases h
 | agg cs xs eY=>cases h;exact eY
 | _=>simp only [cellsOf] at h;cases h;simp only [Value.cells];refine .cons _ _ _ _ ?_ .nil;constructor<;>assumption
def uC:Nat→List ah→Option (List ah)
  | 0,_=>some []
  | n+1,v::r=>match uC n r with
    | some s=>some (v::s)
    | none=>none
  | _+1,[]=>none
def qG:Nat→List ah→Option (List ah)
 | 0,r=>some r
 | n+1,_::r=>qG n r
 | _+1,[]=>none
def nth {α:Type}:List α→Nat→Option α
 | [],_=>none
 | x::_,0=>some x
 | _::r,n+1=>nth r n
theorem x8 {α:Type} (l:List α) (n:Nat):nth l n=l[n]?:=by
  induction l generalizing n with
  | nil=>rfl
  | cons x l aW=>cases n with
    | zero=>rfl
    | succ n=>simp only [nth,ai4];exact aW n
theorem Cv {n:Nat} {l r:List ah} (h:uC n l=some r):r=l.take n∧n≤l.length:=by
 induction n generalizing l r with
 | zero=>cases h;simp
 | succ n aW=>
  cases l with
  | nil=>simp [uC] at h
  | cons v l=>
   simp only [uC] at h;split at h
   ·rename_i s au;cases h;obtain ⟨aa,ad⟩:=aW au;subst aa;simp;omega
   ·cases h
theorem RI {n:Nat} {l r:List ah} (h:qG n l=some r):r=l.drop n:=by
  induction n generalizing l with
  | zero=>cases h;rfl
  | succ n aW=>cases l with
    | nil=>simp [qG] at h
    | cons v l=>simpa [qG] using aW (by simpa [qG] using h)
def hP (i:bQ) (cells:List ah) (off:Nat):Option ah:=
  match qG off cells with
  | none=>none
  | some r=>match i.bL with
    | .struct _=>match uC i.size r with
      | some cs=>some (.agg cs)
      | none=>none
    | .arr _ _=>match uC i.size r with
      | some cs=>some (.agg cs)
      | none=>none
    | .other=>none
    | _=>match r with
      | v::_=>some v
      | []=>none
def hF:Value→Option ah
  | .agg cs=>match cs.toList.mapM x1 with
    | some xs=>some (.agg xs)
    | none=>none
  | v=>x1 v
theorem RJ {w:World} {p:bU} {vs:List Value} {xs:List ah} (h:vs.mapM x1=some xs):bH w p vs xs:=by
 induction vs generalizing xs with
 | nil=>simp at h;subst h;exact .nil
 | cons v vs aW=>
  simp only [ay5,Option.bind_eq_bind,Option.pure_def,Option.bind_eq_some_iff,ak0.injEq] at h;obtain ⟨x,ab,ys,tg,rfl⟩:=h;exact .cons _ _ _ _ (Fj ab) (aW tg)
theorem qH {w:World} {p:bU} {v:Value} {x:ah} (h:hF v=some x):Rel w p v x:=by
 unfold hF at h;split at h
 ·split at h
  ·rename_i cs xs ab;cases h;exact .agg _ _ (RJ ab)
  ·cases h
 ·exact Fj h
def vX (d:TypeDesc):Bool:=match d with | .struct _ | .array _ _=>true|_=>false
theorem x9 {P:Program} {t:TypeId} {d:TypeDesc} (h:P.underlying t=some d) (w:World):(isAgg t).run P w = .ok (vX d) w:=by
 unfold isAgg;rw [aa',run_underlying h,i7];cases d<;>rfl
theorem zH {d:TypeDesc} {gJ:List (Nat×TypeId)} (h:en d = .struct gJ):∃ f:Array Field,d = .struct f∧gJ=f.toList.map fun x=>(x.offset,x.type):=by
 cases d<;>simp [en] at h;rename_i f;exact ⟨f,rfl,h.symm⟩
theorem zI {d:TypeDesc} {n:Nat} {e:TypeId} (h:en d = .arr n e):d = .array n e:=by
 cases d<;>simp [en] at h
 rw [h.1,h.2]
theorem J1 {d:TypeDesc} (aa:∀ gJ,en d ≠ .struct gJ) (aj:∀ n e,en d ≠ .arr n e) (ad:en d ≠ .other):vX d=false:=by
 cases d<;>simp_all [en,vX]
def Fs (op:BinOp) (k:IntKind) (a b:Int):Option ah:=
 match op with
 | .add=>some (.int k (k.wrap (a+b)))
 | .sub=>some (.int k (k.wrap (a-b)))
 | .mul=>some (.int k (k.wrap (a*b)))
 | .eql=>some (.bool (a==b))
 | .neq=>some (.bool (a != b))
 | .lss=>some (.bool (decide (a<b)))
 | .leq=>some (.bool (decide (a≤b)))
 | .gtr=>some (.bool (decide (a>b)))
 | .geq=>some (.bool (decide (a≥b)))
 | _=>none
def Ft (op:BinOp) (a b:List UInt8):Option ah:=
 match op with
 | .eql=>some (.bool (a==b))
 | .neq=>some (.bool (!(a==b)))
 | .lss=>some (.bool (Op.bytesLess a b))
 | .gtr=>some (.bool (!(Op.bytesLess a b||a==b)))
 | .leq=>some (.bool (Op.bytesLess a b||a==b))
 | .geq=>some (.bool (!(Op.bytesLess a b)))
 | _=>none
def vY:ah→Option Bool
 | .qB | .td | .uz | .ob=>some true
 | .ptr _ _ | .bA _ _ | .mu _ _ | .map _ | .func _ _ _ | .iface _ _=>some false
 | .aG _ _ .nil=>some true
 | .aG _ (_::_) _=>some false
 | .aG _ _ (.own _)=>some false
 | _=>none
inductive Fu where|ptr|aG|map|func|iface
def J2:Operand→Option Fu
 | .const (.pointer none)=>some .ptr
 | .const (.slice none 0 0)=>some .aG
 | .const (.map none)=>some .map
 | .const .nilFunc=>some .func
 | .const .nilIface=>some .iface
 | _=>none
def tf.Cw:tf→Fu→Bool
 | .ptr _,.ptr=>true
 | .aG _,.aG=>true
 | .map _ _,.map=>true
 | .func,.func=>true
 | .iface _,.iface=>true
 | _,_=>false
def ah.Cx:ah→Fu→Bool
 | .qB,.ptr | .ptr _ _,.ptr | .bA _ _,.ptr | .mu _ _,.ptr=>true
 | .aG _ _ _,.aG=>true
 | .td,.map | .map _,.map=>true
 | .uz,.func | .func _ _ _,.func=>true
 | .ob,.iface | .iface _ _,.iface=>true
 | _,_=>false
def Cy (Γ:cw) (op:BinOp) (t:TypeId) (y:Operand) (a b:ah):Option ah:=
  match J2 y with
  | some k=>match Γ.get? t with
    | some i=>match i.bL.Cw k,a.Cx k,vY a,op with
      | true,true,some q,.eql=>some (.bool q)
      | true,true,some q,.neq=>some (.bool (!q))
      | _,_,_,_=>none
    | none=>none
  | none=>match a,b with
    | .int k x,.int k' z=>if k=k' then Fs op k x z else none
    | .str x,.str z=>Ft op x z
    | .bool x,.bool z=>match Γ.get? t,op with
      | some ⟨.bool,_,_,_⟩,.eql=>some (.bool (x==z))
      | some ⟨.bool,_,_,_⟩,.neq=>some (.bool (!(x==z)))
      | _,_=>none
    | .mu x _,.mu z _=>match Γ.get? t,op with
      | some ⟨.ptr e,_,_,_⟩,.eql=>match Γ.get? e with
        | some ⟨_,_+1,_,_⟩=>some (.bool (x==z))
        | _=>none
      | some ⟨.ptr e,_,_,_⟩,.neq=>match Γ.get? e with
        | some ⟨_,_+1,_,_⟩=>some (.bool (!(x==z)))
        | _=>none
      | _,_=>none
    | _,_=>none
theorem RK {P:Program} {op:BinOp} {t:TypeId} {k:IntKind} {a b:Int} {x:ah} (h:Fs op k a b=some x) (w:World) (p:bU) :
  ∃ v,(binOp op t (.int k a) (.int k b)).run P w = .ok v w∧Rel w p v x:=by
 cases op<;>simp only [Fs] at h<;>cases h<;>simp only [binOp,ne_eq,not_true_eq_false,ah9,Op.intArith,Op.intCmp,ae3] <;>
  first|exact ⟨_,rfl,.int _ _⟩|exact ⟨_,rfl,.bool _⟩
theorem RL {P:Program} {op:BinOp} {t:TypeId} {a b:ByteArray} {x:ah} (h:Ft op a.data.toList b.data.toList=some x) (w:World) (p:bU) :
  ∃ v,(binOp op t (.string a) (.string b)).run P w = .ok v w∧Rel w p v x:=by
 cases op<;>simp only [Ft] at h<;>cases h<;>simp only [binOp,Op.stringOp,ae3,ByteArray.toList_eq]<;>exact ⟨_,rfl,.bool _⟩
theorem J3 {w:World} {b:Nat} {x:TypeId×Nat} (h:w.kU b=some x):∃ c T,w.heap[b]? = some (.cells c T (0,0)):=by
 unfold World.kU at h;split at h
 ·rename_i c T cN;exact ⟨c,T,cN⟩
 ·cases h
theorem th {P:Program} {op:BinOp} {t:TypeId} {x y:Operand} {a b:Value} (w:World) (h:(a = .nilIface∧b = .nilIface→∃ c,y = .const c)∧(∀ c,a ≠ .agg c)) :
  (eqGuard op t x y a b).run P w = .ok () w:=by
 cases a with
 | nilIface=>
  cases b with
  | nilIface=>
   obtain ⟨c,rfl⟩:=h.1 ⟨rfl,rfl⟩;cases x<;>cases op<;>rfl
  | _=>cases op<;>rfl
 | agg c=>exact absurd C (h.2 c)
 | _=>cases op<;>rfl
theorem vZ {P:Program} {t:TypeId} {x y:Value} {q:Bool} {w:World} (an:binOp .eql t x y=(do pure (.bool (← Op.equal t x y)))) (aB:binOp .neq t x y=(do pure (.bool (!(← Op.equal t x y)))))
  (h:∀ d,(Op.equalIn (d+1) t x y).run P w = .ok q w):(binOp .eql t x y).run P w = .ok (.bool q) w∧(binOp .neq t x y).run P w = .ok (.bool (!q)) w:=by
 have he:(Op.equal t x y).run P w = .ok q w:=h 9999;rw [an,aB];simp only [aa',he,i7,ae3,and_self]
theorem RM {w:World} {p:bU} {v:Value} {sz:Nat} {xs:List ah} {own:bV} {q:Bool} (h:Rel w p v (.aG sz xs own)) (bn:vY (.aG sz xs own)=some q) :
  (v = .slice none 0 0∧q=true)∨(∃ a n c,v = .slice (some a) n c∧q=false):=by
 cases h with
 | hY _ _ ai=>
  cases own<;>simp [vY] at bn
  ·exact .inl ⟨rfl,by simp [bn]⟩
  ·exact absurd C (ai _)
 | iA a _ _ ai=>rcases ai with rfl|rfl<;>simp [vY] at bn
 | aG g off n cap _ vs _ _ aB aC aD aE au hm aA b9 ai=>
  refine .inr ⟨_,_,_,rfl,?_⟩;cases own<;>cases xs<;>simp [vY] at bn aB<;>simp [bn]
theorem RN {P:Program} {Γ:cw} (aR:bR P Γ) {N:Nat} {B:fQ} {ro:Option Nat} {env:Env} {s:ao} {a:Act} {w:World} {p:bU} (aK:dw N B ro env s a w p)
  {op:BinOp} {t yt:TypeId} {x y:Operand} {u v r:ah} (ab:aN env x=some u) (ax:aN env y=some v) (h:Cy Γ op t y u v=some r) :
  ∃ val,(do eqGuard op t x y (a.eval x) (a.eval y);binOp op t (a.eval x) (a.eval y):Sem Value).run P w = .ok val w∧Rel w p val r:=by
 have hu:=aK.aN ab;have ar:=aK.aN ax;unfold Cy at h;split at h
 ·rename_i k aA
  have RO:∃ c,y = .const c∧a.eval y=c∧((k = .ptr∧c = .pointer none)∨(k = .aG∧c = .slice none 0 0)∨(k = .map∧c = .map none)∨(k = .func∧c = .nilFunc)∨(k = .iface∧c = .nilIface)):=by
   unfold J2 at aA;split at aA<;>cases aA<;>exact ⟨_,rfl,rfl,by simp⟩
  obtain ⟨c,rfl,aD,Cz⟩:=RO;rw [aD];split at h
  ·rename_i i aS
   obtain ⟨info,d,aa,ad,aj,-⟩:=aR.parts aS;have key:∀ q,vY u=some q→u.Cx k=true→i.bL.Cw k=true→(∀ cs,a.eval x ≠ .agg cs)∧(binOp .eql t (a.eval x) c).run P w = .ok (.bool q) w∧(binOp .neq t (a.eval x) c).run P w = .ok (.bool (!q)) w:=by
    intro q bn aX ai;generalize a.eval x=dN at hu;rw [← aj] at ai;have au:∀ (g n cap:Nat) (o:Nat),True:=fun _ _ _ _=>trivial
    have db:∀ e sz xs own,d = .slice e→u = .aG sz xs own→(∀ cs,dN ≠ .agg cs)∧(binOp .eql t dN (.slice none 0 0)).run P w = .ok (.bool q) w∧(binOp .neq t dN (.slice none 0 0)).run P w = .ok (.bool (!q)) w:=by
     rintro e sz xs own rfl rfl;rcases RM hu bn with ⟨rfl,rfl⟩|⟨a,n,c,rfl,rfl⟩<;>(refine ⟨by simp,vZ C C (fun d=>?_)⟩<;>simp [Op.equalIn,run_underlying ad])
    rcases Cz with ⟨rfl,rfl⟩|⟨rfl,rfl⟩|⟨rfl,rfl⟩|⟨rfl,rfl⟩|⟨rfl,rfl⟩ <;>
    (try (cases d<;>simp only [en,tf.Cw] at ai<;>(try (simp at ai;done))<;>cases u<;>simp only [ah.Cx] at aX<;>(try (simp at aX;done))<;>exact db _ _ _ _ C C)) <;>
    cases d<;>simp only [en,tf.Cw] at ai<;>(try (simp at ai;done)) <;>
    cases hu<;>simp only [ah.Cx,vY] at aX bn<;>(try (simp at aX;done)) <;>
    (try (cases bn)) <;>
    (refine ⟨by simp,vZ C C (fun d=>?_)⟩<;>simp [Op.equalIn,run_underlying ad]<;>done)
   split at h
   ·rename_i q ai aX bn
    cases h;obtain ⟨cu,c2,fg⟩:=key q bn aX ai;exact ⟨_,by rw [aa',th w ⟨fun _=>⟨_,rfl⟩,cu⟩,i7,c2],.bool _⟩
   ·rename_i q ai aX bn
    cases h;obtain ⟨cu,c2,fg⟩:=key q bn aX ai;exact ⟨_,by rw [aa',th w ⟨fun _=>⟨_,rfl⟩,cu⟩,i7,fg],.bool _⟩
   ·cases h
  ·cases h
 ·split at h
  ·rename_i k z k' aed
   split at h
   ·rename_i lS
    subst lS;generalize a.eval x=dN at hu;generalize a.eval y=gb at ar;cases hu;cases ar;obtain ⟨val,aa,ad⟩:=RK (P:=P) (t:=t) h w p;exact ⟨val,by rw [aa',th w ⟨by simp,by simp⟩,i7,aa],ad⟩
   ·cases h
  ·generalize a.eval x=dN at hu;generalize a.eval y=gb at ar
   cases hu with|str gq _ b6=>cases ar with|str dm _ bW=>
   subst b6;subst bW;obtain ⟨val,aa,ad⟩:=RL (P:=P) (t:=t) h w p;exact ⟨val,by rw [aa',th w ⟨by simp,by simp⟩,i7,aa],ad⟩
  ·generalize a.eval x=dN at hu;generalize a.eval y=gb at ar
   cases hu;cases ar;split at h
   ·rename_i aS
    obtain ⟨info,d,aa,ad,aj,-⟩:=aR.parts aS;have ay:d = .bool:=by cases d<;>simp [en] at aj;rfl
    subst ay;cases h;exact ⟨_,by rw [aa',th w ⟨by simp,by simp⟩,i7];exact run_eql_bool w t _ _ ad,.bool _⟩
   ·rename_i aS
    obtain ⟨info,d,aa,ad,aj,-⟩:=aR.parts aS;have ay:d = .bool:=by cases d<;>simp [en] at aj;rfl
    subst ay;cases h;exact ⟨_,by rw [aa',th w ⟨by simp,by simp⟩,i7];exact run_neq_bool w t _ _ ad,.bool _⟩
   ·cases h
  ·rename_i gq acE dm gg
   generalize a.eval x=dN at hu;generalize a.eval y=gb at ar;cases hu;cases ar;rename_i v1 zJ s1 cW fr v2 x' s2 c6 gD;have key:∀ e d i,P.underlying t=some (.pointer e)→Γ.get? e=some i→i.size≠0→(Op.equalIn (d+1) t (.pointer (some ⟨gq,0,none⟩)) (.pointer (some ⟨dm,0,none⟩))).run P w = .ok (gq==dm) w:=by
    intro e d i he aS bo;obtain ⟨m0,c4,od,oe,v7,nH,-⟩:=aR.parts aS;have cc:m0.size≠0:=by rw [nH];exact bo
    have au:(sameAddr ⟨gq,0,none⟩ ⟨dm,0,none⟩).run P w = .ok (gq==dm) w:=by
     by_cases an:gq=dm
     ·subst an;rw [beq_self_eq_true];exact run_sameAddr_same w _
     ·rw [beq_eq_false_iff_ne.2 an]
      obtain ⟨hz,aes,cu⟩:=J3 s1.choose_spec;obtain ⟨hZ,aef,c2⟩:=J3 s2.choose_spec;exact run_sameAddr_other w (fun e=>an (ae6 Addr.block e)) cu c2
    simp only [Op.equalIn,aa',run_underlying he,i7,sizeOf,typeInfo,run_program,od,ae3];rw [f7 (by simpa using cc)];exact au
   split at h
   ·rename_i aS
    obtain ⟨info,d,aa,ad,aj,-⟩:=aR.parts aS;obtain ⟨e,rfl⟩:∃ e,d = .pointer e:=by cases d<;>simp [en] at aj;exact ⟨_,rfl⟩
    simp only [en,tf.ptr.injEq] at aj;subst aj;split at h
    ·rename_i he
     cases h;exact ⟨_,by rw [aa',th w ⟨by simp,by simp⟩,i7];exact (vZ C C fun d=>key e d _ ad he bc).1,.bool _⟩
    ·cases h
   ·rename_i aS
    obtain ⟨info,d,aa,ad,aj,-⟩:=aR.parts aS;obtain ⟨e,rfl⟩:∃ e,d = .pointer e:=by cases d<;>simp [en] at aj;exact ⟨_,rfl⟩
    simp only [en,tf.ptr.injEq] at aj;subst aj;split at h
    ·rename_i he
     cases h;exact ⟨_,by rw [aa',th w ⟨by simp,by simp⟩,i7];exact (vZ C C fun d=>key e d _ ad he bc).2,.bool _⟩
    ·cases h
   ·cases h
  ·cases h
def fS (env:Env):List Operand→Option (List ah)
  | []=>some []
  | o::r=>match aN env o with
    | some v=>match fS env r with
      | some vs=>some (v::vs)
      | none=>none
    | none=>none
theorem CA {N:Nat} {B:fQ} {ro:Option Nat} {env:Env} {s:ao} {a:Act} {w:World} {p:bU} (aK:dw N B ro env s a w p) {l:List Operand} {vs:List ah}
  (h:fS env l=some vs):bH w p (l.map a.eval) vs:=by
 induction l generalizing vs with
 | nil=>cases h;exact .nil
 | cons o r aW=>
  simp only [fS] at h;split at h
  ·rename_i v ar
   split at h
   ·rename_i us hu;cases h;exact .cons _ _ _ _ (aK.aN ar) (aW hu)
   ·cases h
  ·cases h
def eV:Nat→List ah→List ah→List ah
 | _,[],cells=>cells
 | off,c::cs,cells=>eV (off+1) cs (cells.set off c)
def v8 (place:Nat→Option (Nat×Nat)):List ah→List (Nat×ah)→Option (List ah)
  | cells,[]=>some cells
  | cells,(i,v)::rest=>match place i,cellsOf v with
    | some (off,size),some cs=>match af2 cs.length size&&ao6 (off+size) cells.length with
      | true=>v8 place (eV off cs cells) rest
      | false=>none
    | _,_=>none
def placesOf (Γ:cw):List (Nat×TypeId)→Option (List (Nat×Nat))
  | []=>some []
  | (off,t)::r=>match Γ.get? t with
    | some i=>match placesOf Γ r with
      | some l=>some ((off,i.size)::l)
      | none=>none
    | none=>none
def v' (env:Env):List (Nat×Operand)→Option (List (Nat×ah))
  | []=>some []
  | (i,o)::r=>match aN env o with
    | some v=>match v' env r with
      | some l=>some ((i,v)::l)
      | none=>none
    | none=>none
def zK (env:Env) (sz:Nat):Nat→List (Nat×Operand)→Option (List ah)
  | _,[]=>some []
  | k,(i,o)::r=>match af2 i k with
    | true=>match aN env o with
      | some v=>match cellsOf v with
        | some cs=>match af2 cs.length sz with
          | true=>match zK env sz (k+1) r with
            | some l=>some (v::l)
            | none=>none
          | false=>none
        | none=>none
      | none=>none
    | false=>none
def pL (Γ:cw) (o:Oper) (env:Env):Option ah:=
  match o.op with
  | .move x=>aN env x
  | .assign x=>aN env x
  | .pick c a b=>match aN env c with
    | some (.bool true)=>aN env a
    | some (.bool false)=>aN env b
    | _=>none
  | .binOp op t x y _=>match aN env x,aN env y with
    | some a,some b=>Cy Γ op t y a b
    | _,_=>none
  | .unOp .not _ x=>match aN env x with
    | some (.bool b)=>some (.bool (!b))
    | _=>none
  | .extract x i=>match aN env x with
    | some (.cr vs)=>nth vs i
    | _=>none
  | .fieldAddr s x f=>match Γ.get? s with
    | some ⟨.struct gJ,_,_,_⟩=>match nth gJ f with
      | some (off,t)=>match Γ.get? t with
        | some ⟨_,_+1,_,_⟩=>match aN env x with
          | some (.ptr b o)=>some (.ptr b (o+off))
          | some (.bA cs o)=>some (.bA cs (o+off))
          | some (.mu _ cs)=>some (.bA cs off)
          | _=>none
        | _=>none
      | none=>none
    | _=>none
  | .field s x f=>match Γ.get? s with
    | some ⟨.struct gJ,_,_,_⟩=>match nth gJ f with
      | some (off,t)=>match Γ.get? t with
        | some i=>match aN env x with
          | some (.agg cs)=>hP i cs off
          | _=>none
        | none=>none
      | none=>none
    | _=>none
  | .load t x=>match Γ.get? t with
    | some i=>match aN env x with
      | some (.bA cs o)=>hP i cs o
      | some (.mu _ cs)=>hP i cs 0
      | _=>none
    | none=>none
  | .makeInterface t x=>match Γ.get? t with
    | some ⟨.iface _,_,_,_⟩=>none
    | some _=>match aN env x with
      | some v=>some (.iface t v)
      | none=>none
    | none=>none
  | .makeFunc (.func f) first cap=>match fS env first.toList,fS env cap.toList with
    | some a,some c=>some (.func f a c)
    | _,_=>none
  | .nilCheck x=>match aN env x with
    | some (.ptr b o)=>some (.ptr b o)
    | some (.bA cs o)=>some (.bA cs o)
    | some (.mu b cs)=>some (.mu b cs)
    | some (.func f a c)=>some (.func f a c)
    | _=>none
  | .typeAssert x _ t ok=>match Γ.get? t with
    | some ⟨.iface _,_,_,_⟩=>none
    | some i=>match aN env x with
      | some (.iface bP v)=>match af2 bP t,ok with
        | true,true=>some (.cr [v,.bool true])
        | true,false=>some v
        | false,true=>match hF i.zero with
          | some z=>some (.cr [z,.bool false])
          | none=>none
        | false,false=>none
      | some .ob=>match ok with
        | true=>match hF i.zero with
          | some z=>some (.cr [z,.bool false])
          | none=>none
        | false=>none
      | _=>none
    | none=>none
  | .call { callee := .builtin .len,args,argTypes }=>match args.toList,argTypes.toList with
    | [x],[t]=>match Γ.get? t with
      | some ⟨.aG _,_,_,_⟩=>match aN env x with
        | some (.aG _ xs _)=>some (.int .i64 xs.length)
        | _=>none
      | some ⟨.str,_,_,_⟩=>match aN env x with
        | some (.str l)=>some (.int .i64 l.length)
        | _=>none
      | _=>none
    | _,_=>none
  | .box _ x=>match aN env x with
    | some v=>match cellsOf v with
      | some cs=>some (.bA cs 0)
      | none=>none
    | none=>none
  | .build t parts=>match Γ.get? t with
    | some ⟨.struct gJ,_,_,z⟩=>match placesOf Γ gJ,hF z,v' env parts.toList with
      | some pl,some (.agg a'),some ps=>match v8 (nth pl) a' ps with
        | some cs=>some (.agg cs)
        | none=>none
      | _,_,_=>none
    | some ⟨.arr _ e,_,_,z⟩=>match Γ.get? e,hF z,v' env parts.toList with
      | some aH,some (.agg a'),some ps=>match v8 (fun i=>some (i*aH.size,aH.size)) a' ps with
        | some cs=>some (.agg cs)
        | none=>none
      | _,_,_=>none
    | _=>none
  | .buildSlice t len parts=>match Γ.get? t with
    | some ⟨.aG e,_,_,_⟩=>match Γ.get? e with
      | some aH=>match af2 parts.size len&&(ao6 (len*aH.size) 16777216&&ao6 len 16777216) with
        | true=>match zK env aH.size 0 parts.toList with
          | some xs=>some (.aG aH.size xs .clip)
          | none=>none
        | false=>none
      | none=>none
    | _=>none
  | _=>none
def gV (P:Program) (o:Oper) (a:Act) (w:World) (p:bU) (v:ah):Prop:=
 ∃ val w' bh,(execOp a.eval o).run P w = .ok (.value val) w'∧Rel w' bh val v∧de w p w' bh∧(∀ s,dq w p s→Kept s s w p w' bh∧dq w' bh s)
theorem gV.same {P:Program} {o:Oper} {a:Act} {w:World} {p:bU} {v:ah} {val:Value} (h:(execOp a.eval o).run P w = .ok (.value val) w) (aE:Rel w p val v) :
  gV P o a w p v:=⟨val,w,p,h,aE,.refl w p,fun s au=>⟨.refl s w p,au⟩⟩
theorem gV.alloc {P:Program} {o:Oper} {a:Act} {w:World} {p:bU} {v:ah} {val:Value} (vs:Array Value) (t:TypeId) (az:∀ b o,p b o→b<w.heap.size)
  (h:(execOp a.eval o).run P w = .ok (.value val) (w.alloc (.cells vs t))) (aE:Rel (w.alloc (.cells vs t)) (p.dX w.heap.size True) val v) :
  gV P o a w p v:=
 ⟨val,_,_,h,aE,uB az _ _,fun _ au=>⟨Ct _ _,zG au _ _⟩⟩
theorem a6.nI {P:Program} {N:Nat} {o:Oper} {env:Env} {s:ao} {v:ah} (ay:gH o=true)
  (h:∀ ro B a w p,dw N B ro env s a w p→gV P o a w p v):a6 P N o env s (fun x ak=>x=v∧ak=s) (fun _ _=>False):=by
 refine ⟨ay,fun ro B a w p aK=>?_⟩;obtain ⟨val,w',bh,cR,aE,hle,aA⟩:=h ro B a w p aK;rw [cR];obtain ⟨ky,hQ⟩:=aA s aK.wf;exact ⟨s,bh,hle,ky,hQ,v,⟨rfl,rfl⟩,aE⟩
theorem gW {P:Program} {x:Sem Value} {v:Value} {w w':World} (h:x.run P w = .ok v w'):(do pure (.value (← x)):Sem Next).run P w = .ok (.value v) w':=by
 simp only [aa',h,i7,ae3]
theorem lr (b o n:Nat):(⟨b,o,none⟩:Addr).add n=⟨b,o+n,none⟩:=by
 unfold Addr.add;split<;>simp_all
theorem J4 {w:World} {p:bU} {vs:List Value} {cells r:List ah} {off:Nat} (aE:bH w p vs cells) (h:qG off cells=some r):bH w p (vs.drop off) r:=by
 rw [RI h];exact aE.drop off
theorem zL {P:Program} {Γ:cw} (aR:bR P Γ) {t:TypeId} {i:bQ} (aS:Γ.get? t=some i) {w:World} {p:bU} {b base off:Nat} {vs:List Value} {cells:List ah} {v:ah}
  (aD:∀ j u,vs[j]? = some u→w.cell? ⟨b,base+j,none⟩=some u) (aE:bH w p vs cells) (h:hP i cells off=some v) :
  ∃ val,(loadVar t ⟨b,base+off,none⟩).run P w = .ok val w∧Rel w p val v:=by
 obtain ⟨info,d,aa,ad,aj,a8,-⟩:=aR.parts aS;unfold hP at h;split at h
 ·cases h
 ·rename_i r ay
  have jo:=J4 aE ay;have jF:∀ j u,(vs.drop off)[j]? = some u→w.cell? ((⟨b,base+off,none⟩:Addr).add j)=some u:=by
   intro j u hu;rw [lr,ao4];exact aD _ _ (by simpa using hu)
  split at h
  ·rename_i gJ bw
   split at h
   ·rename_i cs hG
    cases h;obtain ⟨rfl,hlen⟩:=Cv hG;obtain ⟨f,rfl,-⟩:=zH (aj.trans bw);have aC:((vs.drop off).take i.size).length=info.size:=by rw [ae9,jo.length,a8];omega
    have zM:=run_loadCells_list (P:=P) w ⟨b,base+off,none⟩ ((vs.drop off).take i.size) (fun j u hu=>jF j u (by
     rw [ai2] at hu;split at hu;exact hu;cases hu))
    rw [aC] at zM;refine ⟨_,?_,.agg _ _ (by simpa using jo.take i.size)⟩;simp only [loadVar,aa',x9 ad,i7,vX,ag5,sizeOf,typeInfo,run_program,aa,ae3,zM]
   ·cases h
  ·rename_i J5 jG bw
   split at h
   ·rename_i cs hG
    cases h;obtain ⟨rfl,hlen⟩:=Cv hG;obtain rfl:=zI (aj.trans bw);have aC:((vs.drop off).take i.size).length=info.size:=by rw [ae9,jo.length,a8];omega
    have zM:=run_loadCells_list (P:=P) w ⟨b,base+off,none⟩ ((vs.drop off).take i.size) (fun j u hu=>jF j u (by
     rw [ai2] at hu;split at hu;exact hu;cases hu))
    rw [aC] at zM;refine ⟨_,?_,.agg _ _ (by simpa using jo.take i.size)⟩;simp only [loadVar,aa',x9 ad,i7,vX,ag5,sizeOf,typeInfo,run_program,aa,ae3,zM]
   ·cases h
  ·cases h
  ·rename_i au aO ai
   split at h
   ·rename_i x xs
    cases h;generalize J6:vs.drop off=RP at jo jF;cases jo with
    | cons u _ us _ ab aM=>
    have CB:=jF 0 u C;rw [lr,aq0] at CB;refine ⟨u,?_,ab⟩;have Fv:=J1 (d:=d) (fun gJ=>by rw [aj];exact au gJ) (fun n e=>by rw [aj];exact aO n e) (by rw [aj];exact ai);simp [loadVar,x9 ad,Fv,CB]
   ·cases h
theorem RQ {P:Program} {Γ:cw} (aR:bR P Γ) {t:TypeId} {i:bQ} (aS:Γ.get? t=some i) {w:World} {p:bU} {off:Nat} {vs:Array Value} {cells:List ah} {v:ah}
  (aE:bH w p vs.toList cells) (h:hP i cells off=some v):∃ val,(part t vs off).run P w = .ok val w∧Rel w p val v:=by
 obtain ⟨info,d,aa,ad,aj,a8,-⟩:=aR.parts aS;unfold hP at h;split at h
 ·cases h
 ·rename_i r ay
  have jo:=J4 aE ay;split at h
  ·rename_i gJ bw
   split at h
   ·rename_i cs hG
    cases h;obtain ⟨rfl,hlen⟩:=Cv hG;obtain ⟨f,rfl,-⟩:=zH (aj.trans bw);refine ⟨.agg (vs.extract off (off+info.size)),?_,.agg _ _ ?_⟩
    ·simp only [part,aa',x9 ad,i7,vX,ag5,sizeOf,typeInfo,run_program,aa,ae3]
    ·have:(vs.extract off (off+info.size)).toList=(vs.toList.drop off).take i.size:=by simp [av3,a8]
     rw [this];exact jo.take i.size
   ·cases h
  ·rename_i J5 jG bw
   split at h
   ·rename_i cs hG
    cases h;obtain ⟨rfl,hlen⟩:=Cv hG;obtain rfl:=zI (aj.trans bw);refine ⟨.agg (vs.extract off (off+info.size)),?_,.agg _ _ ?_⟩
    ·simp only [part,aa',x9 ad,i7,vX,ag5,sizeOf,typeInfo,run_program,aa,ae3]
    ·have:(vs.extract off (off+info.size)).toList=(vs.toList.drop off).take i.size:=by simp [av3,a8]
     rw [this];exact jo.take i.size
   ·cases h
  ·cases h
  ·rename_i au aO ai
   split at h
   ·rename_i x xs
    cases h;generalize J6:vs.toList.drop off=RP at jo;cases jo with
    | cons u _ us _ ab aM=>
    have bo:vs[off]? = some u:=by
     have:=ae6 (fun l=>l[0]?) J6;simpa using this
    refine ⟨u,?_,ab⟩;have Fv:=J1 (d:=d) (fun gJ=>by rw [aj];exact au gJ) (fun n e=>by rw [aj];exact aO n e) (by rw [aj];exact ai);simp [part,x9 ad,Fv,bo]
   ·cases h
theorem RR {w:World} {p:bU}:∀ (us:List Value) (cs:List ah) (off:Nat) (vs:List Value) (xs:List ah),bH w p us cs→bH w p vs xs →
  bH w p ((us.zipIdx).foldl (fun l (c,j)=>l.set (off+j) c) vs) (eV off cs xs):=by
 have key:∀ (us:List Value) (cs:List ah) (off k:Nat) (vs:List Value) (xs:List ah),bH w p us cs→bH w p vs xs →
   bH w p ((us.zipIdx k).foldl (fun l (c,j)=>l.set (off+j) c) vs) (eV (off+k) cs xs):=by
  intro us
  induction us with
  | nil=>intro cs off k vs xs h ar;cases h;exact ar
  | cons u us aW=>
   intro cs off k vs xs h ar;cases h with
   | cons _ c _ cs aD aM=>
    simp only [aw',ah4,eV];have:=aW cs off (k+1) _ _ aM (ar.set (off+k) aD);rwa [← ao4] at this
 intro us cs off vs xs h ar;simpa using key us cs off 0 vs xs h ar
theorem J7 (l:List (Value×Nat)) (off:Nat):∀ (vs:Array Value),(l.foldl (fun cs (c,j)=>cs.setIfInBounds (off+j) c) vs).toList=l.foldl (fun cs (c,j)=>cs.set (off+j) c) vs.toList:=by
 induction l with
 | nil=>intro vs;rfl
 | cons x l aW=>intro vs;simp only [ah4,aW,Array.toList_setIfInBounds]
theorem J8 {w:World} {p:bU} {place:Nat→Option (Nat×Nat)}:∀ (ps:List (Nat×Value)) (nJ:List (Nat×ah)) (vs:Array Value) (xs r:List ah),
  ps.map (·.1)=nJ.map (·.1)→bH w p (ps.map (·.2)) (nJ.map (·.2))→bH w p vs.toList xs→v8 place xs nJ=some r →
  ∃ cs,Instr.fill place vs ps=some cs∧bH w p cs.toList r:=by
 intro ps
 induction ps with
 | nil=>
  intro nJ vs xs r aa ad aj h;cases nJ with
  | nil=>cases h;exact ⟨vs,rfl,aj⟩
  | cons q nJ=>simp at aa
 | cons x ps aW=>
  intro nJ vs xs r aa ad aj h;cases nJ with
  | nil=>simp at aa
  | cons q nJ=>
   obtain ⟨i,v⟩:=x;obtain ⟨Cu,u⟩:=q;simp only [ae0,List.cons.injEq] at aa;obtain ⟨rfl,aa⟩:=aa;simp only [ae0] at ad;cases ad with
   | cons _ _ _ _ ar aM=>
   simp only [v8] at h;split at h
   ·rename_i off size cs aF hG
    split at h
    ·rename_i uD
     simp only [f4] at uD;have cc:=ad' uD.1;have hle:=ao5 uD.2;have nK:=qF ar hG;have eM:v.cells.size=size:=by rw [← cc,← nK.length,ae5]
     have d':vs.size=xs.length:=by rw [← aj.length,ae5]
     have J9:=RR _ _ off _ _ nK aj;have bG:v.cells.toList.zipIdx=(v.cells.zipIdx).toList:=by simp
     rw [bG,← J7] at J9;obtain ⟨out,ai,zN⟩:=aW nJ _ _ r aa aM J9 h;refine ⟨out,?_,zN⟩;simp only [Instr.fill,aF];rw [d7 (by simp [eM];omega),← ai,← aw4]
    ·cases h
   ·cases h
theorem J' {N:Nat} {B:fQ} {ro:Option Nat} {env:Env} {s:ao} {a:Act} {w:World} {p:bU} (aK:dw N B ro env s a w p) {l:List (Nat×Operand)} {nJ:List (Nat×ah)}
  (h:v' env l=some nJ):(l.map fun x=>(x.1,a.eval x.2)).map (·.1)=nJ.map (·.1)∧bH w p ((l.map fun x=>(x.1,a.eval x.2)).map (·.2)) (nJ.map (·.2)):=by
 induction l generalizing nJ with
 | nil=>cases h;exact ⟨rfl,.nil⟩
 | cons x l aW=>
  obtain ⟨i,o⟩:=x;simp only [v'] at h;split at h
  ·rename_i v ar
   split at h
   ·rename_i r aE
    cases h;obtain ⟨aa,ad⟩:=aW aE;exact ⟨by simp only [ae0,aa],.cons _ _ _ _ (aK.aN ar) ad⟩
   ·cases h
  ·cases h
theorem RS {P:Program} {Γ:cw} (aR:bR P Γ) (gJ:List Field):∀ {pl:List (Nat×Nat)},placesOf Γ (gJ.map fun x=>(x.offset,x.type))=some pl →
  gJ.mapM (fun f=>(P.info? f.type).map fun i=>(f.offset,i.size))=some pl:=by
 induction gJ with
 | nil=>intro pl h;cases h;rfl
 | cons f gJ aW=>
  intro pl h;simp only [ae0,placesOf] at h;split at h
  ·rename_i i aS
   split at h
   ·rename_i l aC
    cases h;obtain ⟨info,d,aa,-,-,a8,-⟩:=aR.parts aS;simp [ay5,aa,aW aC,a8]
   ·cases h
  ·cases h
theorem Ka (sz:Nat):∀ (vs:List Value) (k:Nat) (pre post:List Value),pre.length=k*sz→post.length=vs.length*sz→(∀ v∈vs,v.cells.size=sz) →
  Instr.fill (fun i=>some (i*sz,sz)) (pre++post).toArray ((vs.zipIdx k).map fun x=>(x.2,x.1))=some (pre++flat vs).toArray:=by
 intro vs
 induction vs with
 | nil=>intro k pre post aa ad aj;have:post=[]:=ai9 pJ;subst this;simp [Instr.fill,flat]
 | cons v vs aW=>
  intro k pre post aa ad aj;have ar:=aj v (i6 ..);simp only [aw',ae0,Instr.fill];have hlen:post.length=sz+vs.length*sz:=by rw [ad,i5,ak1];omega
  rw [d7 (by simp [ar];omega)];have wa:(Array.foldl (fun cs x=>cs.setIfInBounds (k*sz+x.2) x.1) (pre++post).toArray v.cells.zipIdx)=((pre++v.cells.toList)++post.drop sz).toArray:=by
   apply ap9;rw [← aw4];have:=J7 v.cells.zipIdx.toList (k*sz) (pre++post).toArray;simp only at this ⊢;rw [this];have bG:v.cells.zipIdx.toList=v.cells.toList.zipIdx:=by simp
   rw [bG];have gen:∀ (us:List Value) (j:Nat) (a b:List Value),a.length=k*sz+j→us.length≤b.length →
     (us.zipIdx j).foldl (fun cs (x:Value×Nat)=>cs.set (k*sz+x.2) x.1) (a++b)=a++us++b.drop us.length:=by
    intro us
    induction us with
    | nil=>intro j a b _ _;simp
    | cons u us RT=>
     intro j a b aO an;cases b with
     | nil=>simp at an
     | cons c b=>
      simp only [aw',ah4,i5,ao2];have:(a++c::b).set (k*sz+j) u=(a++[u])++b:=by
       rw [List.set_append_right _ _ ag];have:k*sz+j-a.length=0:=by omega
       rw [this];simp
      rw [this,RT (j+1) (a++[u]) b cL uu];simp
   have fz:v.cells.toList.length=sz:=by rw [ae5,ar]
   have:=gen v.cells.toList 0 pre post ag (by rw [fz];omega);rw [fz] at this;simpa using this
  rw [wa];have:=aW (k+1) (pre++v.cells.toList) (post.drop sz) (by simp [aa,ar,ak1]) (by rw [ai8,hlen];omega) (fun u hu=>aj u (i0 _ hu));rw [this];simp [flat,aj5]
theorem RU {N:Nat} {B:fQ} {ro:Option Nat} {env:Env} {s:ao} {a:Act} {w:World} {p:bU} (aK:dw N B ro env s a w p) {sz:Nat}:∀ {l:List (Nat×Operand)} {k:Nat} {xs:List ah},
    zK env sz k l=some xs→∃ vs:List Value,(l.map fun x=>(x.1,a.eval x.2))=(vs.zipIdx k).map (fun x=>(x.2,x.1))∧bH w p vs xs∧(∀ v∈vs,v.cells.size=sz)∧vs.length=l.length:=by
  intro l
  induction l with
  | nil=>intro k xs h;cases h;exact ⟨[],rfl,.nil,by simp,rfl⟩
  | cons x l aW=>
    intro k xs h;obtain ⟨i,o⟩:=x;simp only [zK] at h;split at h
    · rename_i an
      split at h
      · rename_i v ar
        split at h
        · rename_i cs hG
          split at h
          · rename_i aC
            split at h
            · rename_i r aE
              cases h;have:=ad' an;subst this;obtain ⟨vs,aa,ad,aj,a8⟩:=aW aE;have eS:=aK.aN ar;have cc:(a.eval o).cells.size=sz:=by
                rw [← ad' aC,← (qF eS hG).length,ae5]
              exact ⟨a.eval o::vs,by simp [aa],.cons _ _ _ _ eS ad,by
                intro u hu;rcases ae8.1 hu with rfl|hu;exact cc;exact aj u hu,by simp [a8]⟩
            · cases h
          · cases h
        · cases h
      · cases h
    · cases h
section
variable {P:Program} {Γ:cw} (aR:bR P Γ) {N:Nat} {B:fQ} {ro:Option Nat} {env:Env} {s:ao} {a:Act} {w:World} {p:bU} (aK:dw N B ro env s a w p)
include aK
theorem Kb {o:Oper} {x:Operand} {v:ah} (ai:o.op = .move x∨o.op = .assign x) (h:aN env x=some v):gV P o a w p v:=by
 refine .same (val:=a.eval x) ?_ (aK.aN h);unfold execOp;rcases ai with ai|ai<;>rw [ai]<;>rfl
theorem Kc {o:Oper} {c x y:Operand} {v:ah} {t:Bool} (ai:o.op = .pick c x y) (aD:aN env c=some (.bool t)) (h:aN env (if t then x else y)=some v):gV P o a w p v:=by
 refine .same (val:=a.eval (if t then x else y)) ?_ (aK.aN h);unfold execOp;rw [ai];simp only [Cs (aK.aN aD),asBool,aa',ae3,i7];cases t<;>rfl
include aR
theorem RV {o:Oper} {op:BinOp} {t yt:TypeId} {x y:Operand} {u v r:ah} (ai:o.op = .binOp op t x y yt) (ab:aN env x=some u) (ax:aN env y=some v)
  (h:Cy Γ op t y u v=some r):gV P o a w p r:=by
 obtain ⟨val,aa,ad⟩:=RN aR aK (yt:=yt) ab ax h;refine .same (val:=val) ?_ ad;unfold execOp;rw [ai];exact gW aa
omit aR in
theorem RW {o:Oper} {t:TypeId} {x:Operand} {b:Bool} (ai:o.op = .unOp .not t x) (ab:aN env x=some (.bool b)):gV P o a w p (.bool (!b)):=by
 refine .same (val := .bool (!b)) ?_ (.bool _);unfold execOp;rw [ai];simp only [Cs (aK.aN ab)];exact gW (by simp [Op.unary])
omit aR in
theorem RX {o:Oper} {x:Operand} {i:Nat} {vs:List ah} {v:ah} (ai:o.op = .extract x i) (ab:aN env x=some (.cr vs)) (h:nth vs i=some v):gV P o a w p v:=by
 have aE:=aK.aN ab;generalize ar:a.eval x=dN at aE;cases aE with
 | cr us _ aC=>
 rw [x8] at h;obtain ⟨u,hu,zO⟩:=aC.get h;refine .same (val:=u) ?_ zO;unfold execOp;rw [ai];simp only [ar]
 exact gW (by
  have:us[i]? = some u:=by simpa using hu
  simp [Instr.extract,this])
theorem Fw {o:Oper} {S:TypeId} {x:Operand} {f sz m1:Nat} {gJ:List (Nat×TypeId)} {z:Value} {off:Nat} {t:TypeId} {dR:bQ} {v:ah} (ai:o.op = .fieldAddr S x f)
  (b8:Γ.get? S=some ⟨.struct gJ,sz,m1,z⟩) (aX:nth gJ f=some (off,t)) (aM:Γ.get? t=some dR) (bo:dR.size≠0)
  (h:(∃ b o,aN env x=some (.ptr b o)∧v = .ptr b (o+off))∨(∃ cs o,aN env x=some (.bA cs o)∧v = .bA cs (o+off))∨(∃ b cs,aN env x=some (.mu b cs)∧v = .bA cs off)):gV P o a w p v:=by
 obtain ⟨info,d,aa,ad,aj,-⟩:=aR.parts b8;obtain ⟨m0,c4,od,oe,v7,nH,-⟩:=aR.parts aM;obtain ⟨zP,rfl,kz⟩:=zH aj;rw [x8,kz,ae7] at aX;obtain ⟨fd,Fx,Fy⟩:=ay0.1 aX;cases Fy;have Fz:zP[f]? = some fd:=by simpa using Fx
 have cc:m0.size≠0:=by rw [nH];exact bo
 have key:∀ b o',a.eval x = .pointer (some ⟨b,o',none⟩)→(execOp a.eval o).run P w = .ok (.value (.pointer (some ⟨b,o'+fd.offset,none⟩))) w:=by
  intro b o' ab;unfold execOp;rw [ai];simp only [ab];refine gW ?_;simp [Instr.fieldAt,run_underlying ad,Fz,Instr.sureAddr,fieldPlace,sizeOf,typeInfo,od,cc,lr]
 rcases h with ⟨b,o',ab,rfl⟩|⟨cs,o',ab,rfl⟩|⟨b,cs,ab,rfl⟩
 ·have aE:=aK.aN ab
  generalize ar:a.eval x=dN at aE;cases aE;exact .same (key _ _ ar) (.ptr _ _)
 ·have aE:=aK.aN ab
  generalize ar:a.eval x=dN at aE;cases aE with
  | bA b base uE off vs _ mw aD hk=>
  exact .same (key _ _ ar) (.bA b base _ _ vs _ ag aD hk)
 ·have aE:=aK.aN ab
  generalize ar:a.eval x=dN at aE;cases aE with
  | mu b vs _ _ _ aD hk=>
  exact .same (key _ _ ar) (.bA b 0 _ _ vs _ C aD hk)
theorem RY {o:Oper} {S:TypeId} {x:Operand} {f sz m1:Nat} {gJ:List (Nat×TypeId)} {z:Value} {off:Nat} {t:TypeId} {dR:bQ} {cs:List ah} {v:ah} (ai:o.op = .field S x f)
  (b8:Γ.get? S=some ⟨.struct gJ,sz,m1,z⟩) (aX:nth gJ f=some (off,t)) (aM:Γ.get? t=some dR) (ab:aN env x=some (.agg cs)) (h:hP dR cs off=some v):gV P o a w p v:=by
 obtain ⟨info,d,aa,ad,aj,-⟩:=aR.parts b8;obtain ⟨zP,rfl,kz⟩:=zH aj;rw [x8,kz,ae7] at aX;obtain ⟨fd,Fx,Fy⟩:=ay0.1 aX;cases Fy;have Fz:zP[f]? = some fd:=by simpa using Fx
 have aE:=aK.aN ab;generalize ar:a.eval x=dN at aE;cases aE with
 | agg us _ aC=>
 obtain ⟨val,cR,eS⟩:=RQ aR aM aC h;refine .same (val:=val) ?_ eS;unfold execOp;rw [ai];simp only [ar];refine gW ?_;simp [Instr.field,run_underlying ad,Fz,asAgg,cR]
theorem Kd {o:Oper} {t:TypeId} {x:Operand} {i:bQ} {cs:List ah} {off:Nat} {v:ah} (ai:o.op = .load t x) (aM:Γ.get? t=some i) (ab:aN env x=some (.bA cs off))
  (h:hP i cs off=some v):gV P o a w p v:=by
 have aE:=aK.aN ab;generalize ar:a.eval x=dN at aE;cases aE with
 | bA b base uE _ vs _ mw aD hk=>
 subst mw;obtain ⟨val,cR,eS⟩:=zL aR aM (b:=b) (base:=base) (fun j u hu=>(aD j u hu).2) hk h;refine .same (val:=val) ?_ eS;unfold execOp;rw [ai];simp only [ar];refine gW ?_;simp only [Instr.loadAt,Instr.sureAddr,aa',ae3,i7,cR]
theorem RZ {o:Oper} {t:TypeId} {x:Operand} {i:bQ} {cs:List ah} {b:Nat} {v:ah} (ai:o.op = .load t x) (aM:Γ.get? t=some i) (ab:aN env x=some (.mu b cs))
  (h:hP i cs 0=some v):gV P o a w p v:=by
 have aE:=aK.aN ab;generalize ar:a.eval x=dN at aE;cases aE with
 | mu b vs _ _ _ aD hk=>
 obtain ⟨val,cR,eS⟩:=zL aR aM (b:=b) (base:=0) (fun j u hu=>(aD j u hu).2) hk h;refine .same (val:=val) ?_ eS;unfold execOp;rw [ai];simp only [ar];refine gW ?_;simp only [Instr.loadAt,Instr.sureAddr,aa',ae3,i7];simpa using cR
theorem R0 {o:Oper} {t:TypeId} {x:Operand} {i:bQ} {v:ah} (ai:o.op = .makeInterface t x) (aM:Γ.get? t=some i) (aS:∀ b,i.bL ≠ .iface b) (ab:aN env x=some v) :
  gV P o a w p (.iface t v):=by
 obtain ⟨info,d,aa,ad,aj,-⟩:=aR.parts aM;refine .same (val := .iface t (a.eval x)) ?_ (.iface _ _ _ (aK.aN ab));unfold execOp;rw [ai];refine gW ?_;have ay:∀ ms,d ≠ .interface ms:=fun ms e=>by subst e;exact aS _ aj.symm
 simp only [Instr.makeInterface,aa',run_underlying ad,i7];cases d<;>first|rfl|exact absurd C (ay _)
omit aR in
theorem R1 {o:Oper} {f:FuncId} {first cap:Array Operand} {wb hA:List ah} (ai:o.op = .makeFunc (.func f) first cap) (aX:fS env first.toList=some wb) (aD:fS env cap.toList=some hA) :
  gV P o a w p (.func f wb hA):=by
 refine .same (val := .func (.func f) (first.map a.eval) (cap.map a.eval)) ?_ (.func _ _ _ _ _ (by simpa using CA aK aX) (by simpa using CA aK aD));unfold execOp;rw [ai];exact gW C
omit aR in
theorem CC {o:Oper} {x:Operand} {v:ah} (ai:o.op = .nilCheck x) (ab:aN env x=some v) (h:(∃ b o,v = .ptr b o)∨(∃ cs o,v = .bA cs o)∨(∃ b cs,v = .mu b cs)∨(∃ f a c,v = .func f a c)):gV P o a w p v:=by
 have aE:=aK.aN ab;refine .same (val:=a.eval x) ?_ aE;unfold execOp;rw [ai];simp only [];rcases h with ⟨b,o',rfl⟩|⟨cs,o',rfl⟩|⟨b,cs,rfl⟩|⟨f,as,cs,rfl⟩<;>generalize ar:a.eval x=dN at aE<;>cases aE<;>rfl
theorem CD {o:Oper} {x:Operand} {CE t:TypeId} {i:bQ} {ok:Bool} {u v:ah} (ai:o.op = .typeAssert x CE t ok) (aM:Γ.get? t=some i) (aS:∀ b,i.bL ≠ .iface b) (ab:aN env x=some u)
  (h:(∃ y,u = .iface t y∧v=if ok then .cr [y,.bool true] else y) ∨
   (ok=true∧(u = .ob∨∃ bP y,bP≠t∧u = .iface bP y)∧∃ z,hF i.zero=some z∧v = .cr [z,.bool false])):gV P o a w p v:=by
 obtain ⟨info,d,aa,ad,aj,a8,bB,gp⟩:=aR.parts aM;have ay:∀ ms,d ≠ .interface ms:=fun ms e=>by subst e;exact aS _ aj.symm
 have aE:=aK.aN ab;generalize ar:a.eval x=dN at aE;have bG:(zeroValue t).run P w = .ok i.zero w:=by simp [zeroValue,typeInfo,aa,gp]
 rcases h with ⟨y,rfl,rfl⟩|⟨rfl,hu,z,CF,rfl⟩
 ·cases aE with
  | iface _ val _ ax=>
  have cR:(Instr.typeAssert (.iface t val) CE t ok).run P w = .ok (if ok then .tuple #[val,.bool true] else val) w:=by
   cases d<;>first|exact absurd C (ay _)|(simp only [Instr.typeAssert,aa',run_underlying ad,i7,ag5,ae3])
  refine .same (val:=if ok then .tuple #[val,.bool true] else val) ?_ (by cases ok;exact ax;exact .cr _ _ (.cons _ _ _ _ ax (.cons _ _ _ _ (.bool _) .nil)));unfold execOp;rw [ai];simp only [ar];exact gW cR
 ·have cR:(Instr.typeAssert dN CE t true).run P w = .ok (.tuple #[i.zero,.bool false]) w:=by
   rcases hu with rfl|⟨bP,y,cP,rfl⟩
   ·cases aE
    cases d<;>first|exact absurd C (ay _)|(simp only [Instr.typeAssert,aa',run_underlying ad,i7,ag5,bG,ae3])
   ·cases aE
    cases d<;>first|exact absurd C (ay _)|(simp only [Instr.typeAssert,aa',run_underlying ad,i7,ag5,d7 cP,bG,ae3])
  refine .same (val := .tuple #[i.zero,.bool false]) ?_ (.cr _ _ (.cons _ _ _ _ (qH CF) (.cons _ _ _ _ (.bool _) .nil)));unfold execOp;rw [ai];simp only [ar];exact gW cR
theorem Ke {o:Oper} {x:Operand} {t:TypeId} {i:bQ} {u:ah} {n:Nat} (ai:o.op = .call { callee := .builtin .len,args := #[x],argTypes := #[t] }) (aM:Γ.get? t=some i) (ab:aN env x=some u)
  (h:(∃ e sz xs own,i.bL = .aG e∧u = .aG sz xs own∧n=xs.length)∨(∃ l,i.bL = .str∧u = .str l∧n=l.length)):gV P o a w p (.int .i64 n):=by
 obtain ⟨info,d,aa,ad,aj,-⟩:=aR.parts aM;have aE:=aK.aN ab;generalize ar:a.eval x=dN at aE;refine .same (val := .int .i64 n) ?_ (.int _ _);unfold execOp;rw [ai];simp only [resolve,invoke,builtin,aa',ae3,i7,ar4,ae0,ag7,ar];rcases h with ⟨e,sz,xs,own,bw,rfl,rfl⟩|⟨l,bw,rfl,rfl⟩
 ·have ay:d = .slice e:=by rw [bw] at aj;cases d<;>simp [en] at aj;rw [aj]
  subst ay;cases aE with
  | hY=>simp [Builtin.len_,run_underlying ad,goInt]
  | iA=>simp [Builtin.len_,run_underlying ad,goInt]
  | aG g off n cap sz vs _ _ aB aC aD aE au hm aA b9 ai=>simp [Builtin.len_,run_underlying ad,goInt,aC]
 ·have ay:d = .string:=by rw [bw] at aj;cases d<;>simp [en] at aj;rfl
  subst ay;cases aE with
  | str b _ e=>subst e;simp [Builtin.len_,run_underlying ad,goInt]
omit aR in
theorem R2 {o:Oper} {t:TypeId} {x:Operand} {v:ah} {cs:List ah} (ai:o.op = .box t x) (ab:aN env x=some v) (aD:cellsOf v=some cs):gV P o a w p (.bA cs 0):=by
 have aE:=aK.aN ab;have nK:=qF aE aD;refine gV.alloc (a.eval x).cells t aK.wf.lt (val := .pointer (some ⟨w.heap.size,0,none⟩)) ?_ ?_
 ·unfold execOp
  rw [ai];exact gW C
 ·refine .bA _ 0 0 0 (a.eval x).cells.toList _ C ?_ (nK.mono (uB aK.wf.lt _ _))
  have:=Fp (w:=w) (p:=p) (a.eval x).cells.toList t;simpa using this
theorem R3 {o:Oper} {t:TypeId} {parts:Array (Nat×Operand)} {gJ:List (Nat×TypeId)} {sz m1:Nat} {z:Value} {pl:List (Nat×Nat)} {a' cs:List ah} {ps:List (Nat×ah)}
  (ai:o.op = .build t parts) (aM:Γ.get? t=some ⟨.struct gJ,sz,m1,z⟩) (gX:placesOf Γ gJ=some pl) (bG:hF z=some (.agg a')) (pM:v' env parts.toList=some ps)
  (h:v8 (nth pl) a' ps=some cs):gV P o a w p (.agg cs):=by
 obtain ⟨info,d,aa,ad,aj,a8,bB,gp⟩:=aR.parts aM;obtain ⟨zP,rfl,kz⟩:=zH aj;rw [kz] at gX;have R4:=RS aR zP.toList gX;have FA:=qH (w:=w) (p:=p) bG;obtain ⟨b6,bW⟩:=J' aK pM;have uF:bH w p z.cells.toList a':=qF FA C;have R5:(fun x=>pl.toArray[x]?)=nth pl:=by funext x;rw [x8];simp
 obtain ⟨out,ti,qI⟩:=J8 _ _ z.cells a' cs b6 bW uF h;refine .same (val := .agg out) ?_ (.agg _ _ qI);unfold execOp;rw [ai];refine gW (run_build w t _ out ?_);unfold Program.built;simp only [aa,ad,gp,R4];rw [R5];simpa using ti
theorem R6 {o:Oper} {t e:TypeId} {n:Nat} {parts:Array (Nat×Operand)} {sz m1:Nat} {z:Value} {aH:bQ} {a' cs:List ah} {ps:List (Nat×ah)}
  (ai:o.op = .build t parts) (aM:Γ.get? t=some ⟨.arr n e,sz,m1,z⟩) (he:Γ.get? e=some aH) (bG:hF z=some (.agg a')) (pM:v' env parts.toList=some ps)
  (h:v8 (fun i=>some (i*aH.size,aH.size)) a' ps=some cs):gV P o a w p (.agg cs):=by
 obtain ⟨info,d,aa,ad,aj,a8,bB,gp⟩:=aR.parts aM;obtain ⟨m0,c4,od,oe,v7,nH,Kf,CG⟩:=aR.parts he;obtain rfl:=zI aj;have FA:=qH (w:=w) (p:=p) bG;obtain ⟨b6,bW⟩:=J' aK pM;have uF:bH w p z.cells.toList a':=qF FA C;obtain ⟨out,ti,qI⟩:=J8 _ _ z.cells a' cs b6 bW uF h;refine .same (val := .agg out) ?_ (.agg _ _ qI);unfold execOp;rw [ai];refine gW (run_build w t _ out ?_);unfold Program.built;simp only [aa,ad,gp,od,nH];simpa using ti
theorem R7 {o:Oper} {t e:TypeId} {len:Nat} {parts:Array (Nat×Operand)} {sz m1:Nat} {z:Value} {aH:bQ} {xs:List ah}
  (ai:o.op = .buildSlice t len parts) (aM:Γ.get? t=some ⟨.aG e,sz,m1,z⟩) (he:Γ.get? e=some aH) (hlen:parts.size=len) (CH:len*aH.size≤16777216) (acF:len≤16777216)
  (h:zK env aH.size 0 parts.toList=some xs):gV P o a w p (.aG aH.size xs .clip):=by
 obtain ⟨info,d,aa,ad,aj,-⟩:=aR.parts aM;obtain ⟨m0,c4,od,oe,v7,nH,Kf,CG⟩:=aR.parts he;have ay:d = .slice e:=by cases d<;>simp [en] at aj;rw [aj]
 subst ay;obtain ⟨vs,b6,bW,eN,m2⟩:=RU aK h;have fz:vs.length=len:=by rw [m2,ae5,hlen]
 have kz:(flat vs).length=len*aH.size:=by
  rw [← fz];clear b6 bW m2 fz h
  induction vs with
  | nil=>simp [flat]
  | cons v vs aW=>
   have:=aW (fun u hu=>eN u (i0 _ hu));simp only [flat,aj5,f9,ae5,i5] at this ⊢;rw [eN v (i6 ..)];have eY:(aD1 (fun v=>v.cells.toList) vs).length=vs.length*aH.size:=this;rw [eY,ak1];omega
 have ti:∀ tj:Array Value,tj.size=len*aH.size→Instr.fill (fun i=>some (i*aH.size,aH.size)) tj (parts.map fun x=>(x.1,a.eval x.2)).toList=some (flat vs).toArray:=by
  intro tj oZ;have:=Ka aH.size vs 0 [] tj.toList bc (by rw [ae5,oZ,fz]) eN;simp only [f0] at this;rw [Array.toList_map,b6];simpa using this
 refine gV.alloc (flat vs).toArray e aK.wf.lt (val := .slice (some ⟨w.heap.size,0,none⟩) len len) ?_ ?_
 ·unfold execOp
  rw [ai];refine gW ?_;have acG:¬ (16777216<len*aH.size):=by omega
  have o0:¬ (len*aH.size>2^24):=by omega
  unfold Instr.buildSlice;simp only [aa',run_underlying ad,i7,sizeOf,typeInfo,run_program,od,ae3,nH,d7 o0];by_cases bo:len*aH.size=0
  ·rw [f7 bo,aa',ae3,i7,ti _ bc]
   rfl
  ·rw [d7 bo]
   simp only [zeroValue,typeInfo,aa',run_program,od,CG,ae3,i7];rw [ti _ bc];rfl
 ·refine .aG _ 0 _ _ _ vs _ _ bc (by rw [← bW.length,fz]) ?_ (bW.mono (uB aK.wf.lt _ _)) eN ?_ (g7 _) (fun _=>rfl) (fun b an=>by cases an)
  ·exact Fp (w:=w) (p:=p) (flat vs) e
  ·omega
theorem Kg {o:Oper} {v:ah} (h:pL Γ o env=some v):gV P o a w p v:=by
 unfold pL at h;split at h
 ·rename_i x ai;exact Kb aK (.inl ai) h
 ·rename_i x ai;exact Kb aK (.inr ai) h
 ·rename_i c x y ai
  split at h
  ·rename_i aD;exact Kc aK (t:=true) ai aD h
  ·rename_i aD;exact Kc aK (t:=false) ai aD h
  ·cases h
 ·rename_i op t x y yt ai
  split at h
  ·rename_i u fy ab ax;exact RV aR aK ai ab ax h
  ·cases h
 ·rename_i t x ai
  split at h
  ·rename_i b an;cases h;exact RW aK ai an
  ·cases h
 ·rename_i x i ai
  split at h
  ·rename_i vs ab;exact RX aK ai ab h
  ·cases h
 ·rename_i S x f ai
  split at h
  ·rename_i gJ sz m1 z b8
   split at h
   ·rename_i off t aX
    split at h
    ·rename_i bL n R8 ad6 aM
     split at h
     ·rename_i b o' ab;cases h;exact Fw aR aK ai b8 aX aM bc (.inl ⟨_,_,ab,rfl⟩)
     ·rename_i cs o' ab;cases h;exact Fw aR aK ai b8 aX aM bc (.inr (.inl ⟨_,_,ab,rfl⟩))
     ·rename_i b cs ab;cases h;exact Fw aR aK ai b8 aX aM bc (.inr (.inr ⟨_,_,ab,rfl⟩))
     ·cases h
    ·cases h
   ·cases h
  ·cases h
 ·rename_i S x f ai
  split at h
  ·rename_i gJ sz m1 z b8
   split at h
   ·rename_i off t aX
    split at h
    ·rename_i i aM
     split at h
     ·rename_i cs ab;exact RY aR aK ai b8 aX aM ab h
     ·cases h
    ·cases h
   ·cases h
  ·cases h
 ·rename_i t x ai
  split at h
  ·rename_i i aM
   split at h
   ·rename_i cs o' ab;exact Kd aR aK ai aM ab h
   ·rename_i b cs ab;exact RZ aR aK ai aM ab h
   ·cases h
  ·cases h
 ·rename_i t x ai
  split at h
  ·cases h
  ·rename_i i FB aM
   split at h
   ·rename_i u ab;cases h;exact R0 aR aK ai aM (fun b e=>by obtain ⟨df,a2,a3,a4⟩:=i;simp only at e;subst e;exact FB _ _ _ _ C) ab
   ·cases h
  ·cases h
 ·rename_i f first cap ai
  split at h
  ·rename_i wb hA aa ad;cases h;exact R1 aK ai aa ad
  ·cases h
 ·rename_i x ai
  split at h
  ·rename_i b o' ab;cases h;exact CC aK ai ab (.inl ⟨_,_,rfl⟩)
  ·rename_i cs o' ab;cases h;exact CC aK ai ab (.inr (.inl ⟨_,_,rfl⟩))
  ·rename_i b cs ab;cases h;exact CC aK ai ab (.inr (.inr (.inl ⟨_,_,rfl⟩)))
  ·rename_i f wb hA ab;cases h;exact CC aK ai ab (.inr (.inr (.inr ⟨_,_,_,rfl⟩)))
  ·cases h
 ·rename_i x CE t ok ai
  split at h
  ·cases h
  ·rename_i i FB aM
   have CI:∀ b,i.bL ≠ .iface b:=fun b e=>by obtain ⟨df,a2,a3,a4⟩:=i;simp only at e;subst e;exact FB _ _ _ _ C
   split at h
   ·rename_i bP u ab
    split at h
    ·rename_i an;cases h;have:=ad' an;subst this;exact CD aR aK ai aM CI ab (.inl ⟨u,rfl,rfl⟩)
    ·rename_i an;cases h;have:=ad' an;subst this;exact CD aR aK ai aM CI ab (.inl ⟨_,rfl,rfl⟩)
    ·rename_i an
     split at h
     ·rename_i z bG;cases h
      exact CD aR aK ai aM CI ab (.inr ⟨rfl,.inr ⟨bP,u,(fun e=>by subst e;simp at an),rfl⟩,z,bG,rfl⟩)
     ·cases h
    ·cases h
   ·rename_i ab
    split at h
    ·split at h
     ·rename_i z bG;cases h
      exact CD aR aK ai aM CI ab (.inr ⟨rfl,.inl C,z,bG,rfl⟩)
     ·cases h
    ·cases h
   ·cases h
  ·cases h
 ·rename_i args argTypes ai
  split at h
  ·rename_i x t aa ad
   have b6:args = #[x]:=by apply ap9;simpa using aa
   have bW:argTypes = #[t]:=by apply ap9;simpa using ad
   subst b6;subst bW;split at h
   ·rename_i e sz m1 z aM
    split at h
    ·rename_i sz' xs own ab;cases h;exact Ke aR aK ai aM ab (.inl ⟨_,_,_,_,rfl,rfl,rfl⟩)
    ·cases h
   ·rename_i sz m1 z aM
    split at h
    ·rename_i l ab;cases h;exact Ke aR aK ai aM ab (.inr ⟨_,rfl,rfl,rfl⟩)
    ·cases h
   ·cases h
  ·cases h
 ·rename_i t x ai
  split at h
  ·rename_i u ab
   split at h
   ·rename_i cs aD;cases h;exact R2 aK ai ab aD
   ·cases h
  ·cases h
 ·rename_i t parts ai
  split at h
  ·rename_i gJ sz m1 z aM
   split at h
   ·rename_i pl a' ps gX bG pM
    split at h
    ·rename_i cs hG;cases h;exact R3 aR aK ai aM gX bG pM hG
    ·cases h
   ·cases h
  ·rename_i J5 jG sz m1 z aM
   split at h
   ·rename_i aH a' ps he bG pM
    split at h
    ·rename_i cs hG;cases h;exact R6 aR aK ai aM he bG pM hG
    ·cases h
   ·cases h
  ·cases h
 ·rename_i t len parts ai
  split at h
  ·rename_i e sz m1 z aM
   split at h
   ·rename_i aH he
    split at h
    ·rename_i uD
     simp only [f4] at uD;split at h
     ·rename_i xs d';cases h
      exact R7 aR aK ai aM he (ad' uD.1) (ao5 uD.2.1) (ao5 uD.2.2) d'
     ·cases h
    ·cases h
   ·cases h
  ·cases h
 ·cases h
omit aK aR in
theorem Kh {o:Oper} {v:ah} (h:pL Γ o env=some v):gH o=true:=by
 unfold gH;cases ai:o.op<;>first|rfl|(unfold pL at h;rw [ai] at h;cases h)
omit aK in
theorem a6.pL {o:Oper} {v:ah} (h:Go.Proofs.YtnafpeohfbglmaaGreat.pL Γ o env=some v):a6 P N o env s (fun x ak=>x=v∧ak=s) (fun _ _=>False):=
 a6.nI (Kh h) fun _ _ _ _ _ aK=>Kg aR aK h
omit aK in
theorem fI.step {ops:Array Oper} {Q:b3→Env→ao→Prop} {i:Nat} {l:List Nat} {o:Oper} {d:Nat} {v:ah} (ai:ops[i]? = some o) (aq:guardOf ops env o=some true)
  (ay:o.dst=some d) (a1:z2 d N=true) (ar:Go.Proofs.YtnafpeohfbglmaaGreat.pL Γ o env=some v) (h:fI P N ops l Q ((d,v)::env) s):fI P N ops (i::l) Q env s:=
 fI.op ai aq ay a1 (a6.pL aR ar) (fun x ak ⟨aa,ad⟩=>by subst aa;subst ad;exact h) (fun _ _ h=>h.elim)
end
def ao.set (s:ao) (b:Nat) (o:dy):ao:=fun aY=>if aY=b then some o else s aY
def ao.del (s:ao) (b:Nat):ao:=fun aY=>if aY=b then none else s aY
theorem ao.gr (s:ao) (b:Nat) (o:dy):s.set b o b=some o:=by simp [ao.set]
theorem ao.fA (s:ao) {b aY:Nat} (o:dy) (h:aY≠b):s.set b o aY=s aY:=by simp [ao.set,h]
theorem ao.nL (s:ao) (b:Nat):s.del b b=none:=by simp [ao.del]
theorem ao.m3 (s:ao) {b aY:Nat} (h:aY≠b):s.del b aY=s aY:=by simp [ao.del,h]
theorem ao.uG {s:ao} {b aY:Nat} {o:dy} (h:s.set b o aY=none):aY≠b∧s aY=none:=by
 unfold ao.set at h;split at h
 ·cases h
 ·exact ⟨‹_›,h⟩
theorem ao.wc (s:ao) (b:Nat) (o:dy) (h:s b=none):ao.Sub s (s.set b o):=fun aY=>by
 by_cases e:aY=b
 ·subst e;exact .inr h
 ·exact .inl (by rw [ao.fA _ _ e])
theorem ao.o1 (s:ao):ao.Sub s s:=fun _ => .inl rfl
theorem ao.Sub.trans {a b c:ao} (h:ao.Sub a b) (k:ao.Sub b c):ao.Sub a c:=fun x=>by
 rcases h x with e|e
 ·rcases k x with e'|e'
  ·exact .inl (e.trans e')
  ·exact .inr (e.trans e')
 ·exact .inr e
theorem ao.zQ (s:ao) (b:Nat) (o:dy) (h:s b=none):(s.set b o).del b=s:=by
 funext aY;by_cases e:aY=b
 ·subst e;simp [ao.del,h]
 ·simp [ao.del,ao.set,e]
theorem ao.set_set (s:ao) (b:Nat) (o o':dy):(s.set b o).set b o'=s.set b o':=by
 funext aY;by_cases e:aY=b<;>simp [ao.set,e]
theorem qC.lt {w:World} {p:bU} {b:Nat} {o:dy} (h:qC w p b o):b<w.heap.size:=by
 cases o with
 | box t cs=>obtain ⟨vs,aa,-⟩:=h;exact (t8.1 aa).1
 | row t sz n=>obtain ⟨vs,aa,-⟩:=h;exact (t8.1 aa).1
 | map es=>obtain ⟨vs,c,aa,-⟩:=h;exact (t8.1 aa).1
 | lp es it l c=>obtain ⟨_,_,_,aa,-⟩:=h;exact (t8.1 aa).1
 | tick m=>obtain ⟨_,_,_,aa⟩:=h;exact (t8.1 aa).1
 | loop r env=>exact (t8.1 h.1).1
theorem rY {w:World} {p:bU} {s:ao} (ca:dq w p s) (o:Obj) (x:dy) (ab:∀ w':World,w'.heap[w.heap.size]? = some o→(∀ v y,Rel w p v y→Rel w' p v y)→(∀ vs ys,bH w p vs ys→bH w' p vs ys)→qC w' p w.heap.size x) :
  s w.heap.size=none∧de w p (w.alloc o) p∧Kept s (s.set w.heap.size x) w p (w.alloc o) p∧dq (w.alloc o) p (s.set w.heap.size x):=by
 have aB:s w.heap.size=none:=by
  cases h:s w.heap.size with
  | none=>rfl
  | some o'=>exact absurd (ca.obj _ _ h).lt ag
 have hle:de w p (w.alloc o) p:=de.of_heap C C C bc (fun _ _ h=>h) ca.lt (fun b an=>mv w o b an);refine ⟨aB,hle,⟨fun b an _=>mv w o b an,fun b an au=>by rw [ao.fA _ _ ag];exact au,fun _ _ _ _ h=>h⟩,?_⟩;have aq:=ca.grow hle (fun b an=>mv w o b an) (fun _ _ _ h=>h) (fun b o aF=>by have:=ca.lt b o aF;simp;omega);refine ⟨fun b o' an=>?_,aq.lt⟩;by_cases e:b=w.heap.size
 ·subst e
  rw [ao.gr] at an;cases an;exact ab _ (uA w o) (fun _ _ h=>h.mono hle) (fun _ _ h=>h.mono hle)
 ·rw [ao.fA _ _ e] at an
  exact aq.obj b o' an
section
variable {P:Program} {Γ:cw} {N:Nat} {env:Env} {s:ao}
theorem a6.kA {o:Oper} {K X:ah→ao→Prop} (ay:gH o=true)
  (h:∀ ro B a w p,dw N B ro env s a w p→∃ val w' ak bh x,(execOp a.eval o).run P w = .ok (.value val) w'∧de w p w' bh∧Kept s ak w p w' bh∧dq w' bh ak∧K x ak∧Rel w' bh val x) :
  a6 P N o env s K X:=by
 refine ⟨ay,fun ro B a w p aK=>?_⟩;obtain ⟨val,w',ak,bh,x,aE,aa,ad,aj,a8,bB⟩:=h ro B a w p aK;rw [aE];exact ⟨ak,bh,aa,ad,aj,x,a8,bB⟩
theorem a6.FC {o:Oper} {K X:ah→ao→Prop} (ay:gH o=true)
  (h:∀ ro B a w p,dw N B ro env s a w p→∃ w' ak bh,(execOp a.eval o).run P w = .ok .skip w'∧de w p w' bh∧Kept s ak w p w' bh∧dq w' bh ak∧K (.cr []) ak) :
  a6 P N o env s K X:=by
 refine ⟨ay,fun ro B a w p aK=>?_⟩;obtain ⟨w',ak,bh,aE,aa,ad,aj,a8⟩:=h ro B a w p aK;rw [aE];exact ⟨ak,bh,aa,ad,aj,_,a8,Fo⟩
theorem a6.alloc (aR:bR P Γ) {o:Oper} {t:TypeId} {i:bQ} {z:ah} {cs:List ah} (ai:o.op = .alloc t) (aM:Γ.get? t=some i) (bG:hF i.zero=some z) (aD:cellsOf z=some cs) {X:ah→ao→Prop} :
  a6 P N o env s (fun x ak=>∃ b,s b=none∧x = .ptr b 0∧ak=s.set b (.box t cs)) X:=by
 refine a6.kA (by simp [gH,ai]) fun ro B a w p aK=>?_
 obtain ⟨info,d,aa,ad,aj,a8,bB,gp⟩:=aR.parts aM
 obtain ⟨aB,hle,aA,ca⟩:=rY aK.wf (.cells i.zero.cells t (0,0)) (.box t cs) (fun w' iO aE hk=>
  ⟨i.zero.cells,iO,hk _ _ (qF (qH bG) aD),fun o' aF=>absurd (aK.wf.lt _ _ aF) ag⟩)
 refine ⟨.pointer (some ⟨w.heap.size,0,none⟩),_,_,p,_,?_,hle,aA,ca,⟨w.heap.size,aB,rfl,rfl⟩,.ptr _ _⟩;unfold execOp;rw [ai];refine gW ?_;simp [Instr.alloc,zeroValue,typeInfo,aa,gp,newVar,newRow]
theorem jH {w:World} {b:Nat} {vs:Array Value} {t:TypeId} {hj:Nat×Nat} (h:w.heap[b]? = some (.cells vs t hj)) (j:Nat):w.cell? ⟨b,j,none⟩=vs[j]?:=by
 simp [World.cell?,h]
theorem a6.uH (aR:bR P Γ) {o:Oper} {t T:TypeId} {x:Operand} {i:bQ} {b off:Nat} {cs:List ah} {v:ah} (ai:o.op = .load t x) (aM:Γ.get? t=some i) (ab:aN env x=some (.ptr b off))
  (au:s b=some (.box T cs)) (h:hP i cs off=some v) {X:ah→ao→Prop}:a6 P N o env s (fun x ak=>x=v∧ak=s) X:=by
 refine a6.kA (by simp [gH,ai]) fun ro B a w p aK=>?_
 have aE:=aK.aN ab;generalize ar:a.eval x=dN at aE;cases aE;obtain ⟨vs,aa,ad,aj⟩:=aK.wf.obj _ _ au;obtain ⟨val,cR,eS⟩:=zL aR aM (b:=b) (base:=0) (vs:=vs.toList) (fun j u hu=>by rw [af6,jH aa];simpa using hu) ad h;refine ⟨val,w,s,p,v,?_,.refl w p,.refl s w p,aK.wf,⟨rfl,rfl⟩,eS⟩;unfold execOp;rw [ai];simp only [ar];refine gW ?_;rw [af6] at cR;simp only [Instr.loadAt,Instr.sureAddr,aa',ae3,i7,cR]
theorem we {w:World} {p:bU} (ca:dq w p s) {b:Nat} {T:TypeId} {cs:List ah} (au:s b=some (.box T cs)) {vs':Array Value} {cs':List ah}
    (cc:∀ vs,w.heap[b]? = some (.cells vs T (0,0))→vs'.size=vs.size) (aE:bH w p vs'.toList cs') (w':World) (iO:w'=w.setRow b vs') :
    de w p w' p∧Kept s (s.set b (.box T cs')) w p w' p∧dq w' p (s.set b (.box T cs')):=by
  subst iO;obtain ⟨vs,aa,ad,aj⟩:=ca.obj _ _ au;have az:b<w.heap.size:=(t8.1 aa).1;have dU:=setRow_heap w b vs vs' T (0,0) aa;have h0:∀ k,k≠b→(w.setRow b vs').heap[k]? = w.heap[k]? := fun k aA=>setRow_other w b k vs' aA
  have hle:de w p (w.setRow b vs') p:=by
    refine ⟨rfl,rfl,rfl,by simp,fun _ _ h=>h,fun aY o aF=>x6 (h0 aY (fun e=>aj o (e ▸ aF))),fun aY x ab=>?_⟩;by_cases e:aY=b
    · subst e
      have R9:=cc vs aa;simp only [World.kU,aa,dU] at ab ⊢;rw [R9];exact ab
    · rw [x5 (h0 aY e)];exact ab
  refine ⟨hle,⟨fun aY an aB=>h0 aY (fun e=>by rw [e,au] at aB;simp at aB),fun aY an aB=>by
    rw [ao.fA]
    · exact aB
    · intro e;rw [e,au] at aB;simp at aB,fun _ _ _ _ h=>h⟩,?_,fun aY o aF=>by simpa using ca.lt aY o aF⟩
  intro aY o' og;by_cases e:aY=b
  · subst e
    rw [ao.gr] at og;cases og;exact ⟨vs',dU,aE.mono hle,aj⟩
  · rw [ao.fA _ _ e] at og
    have ai:=ca.obj aY o' og;have cN:=h0 aY e;cases o' with
    | box t c=>obtain ⟨us,g1,g2,g3⟩:=ai;exact ⟨us,cN.trans g1,g2.mono hle,g3⟩
    | row t sz n=>obtain ⟨cur,g1,g2,g3,g4⟩:=ai;exact ⟨cur,cN.trans g1,g2,g3,g4⟩
    | map es=>obtain ⟨cQ,c,g1,g2,g3⟩:=ai;exact ⟨cQ,c,cN.trans g1,⟨g2.1.mono hle,g2.2.mono hle⟩,g3⟩
    | lp es it l c=>exact ai.qD hle cN (h0 it (ai.zF aa bc))
    | tick m=>obtain ⟨df,a2,a3,g1⟩:=ai;exact ⟨df,a2,a3,cN.trans g1⟩
    | loop r env=>exact ⟨cN.trans ai.1,fun t v h=>(ai.2 t v h).mono hle⟩
def fb:ah→Bool
 | .hE (.func _ _ _)=>true
 | .hE (.slice _ _ _)=>true
 | .any | .hE _ | .agg _ | .cr _=>false
 | _=>true
theorem FD {w:World} {p:bU} {v:Value} {x:ah} (aE:Rel w p v x) (h:fb x=true):v.oneCell'=true:=by
 cases aE with
 | hE v=>cases v<;>first|rfl|(simp [fb] at h;done)
 | _=>first|rfl|(simp [fb] at h;done)
theorem qJ {w:World} {p:bU}:∀ {vs:List Value} {xs:List ah},bH w p vs xs→xs.all fb=true→∀ v∈vs,v.oneCell'=true:=by
 intro vs
 induction vs with
 | nil=>intro xs _ _ v ar;cases ar
 | cons u vs aW=>
  intro xs h aO v ar;cases h with
  | cons _ x _ xs ab aM=>
  simp only [List.all_cons,f4] at aO;rcases ae8.1 ar with rfl|ar
  ·exact FD ab aO.1
  ·exact aW aM aO.2 v ar
theorem Ki (off:Nat):∀ (cs xs:List ah),off+cs.length≤xs.length→eV off cs xs=xs.take off++cs++xs.drop (off+cs.length):=by
 intro cs
 induction cs generalizing off with
 | nil=>intro xs h;simp [eV]
 | cons c cs aW=>
  intro xs h;simp only [eV,i5] at h ⊢;rw [aW (off+1) _ cL];have aa:(xs.set off c).take (off+1)=xs.take off++[c]:=by
   rw [List.take_succ_eq_append_getElem cL];simp [List.take_set_of_le]
  have ad:(xs.set off c).drop (off+1+cs.length)=xs.drop (off+1+cs.length):=by
   rw [List.drop_set_of_lt ag]
  rw [aa,ad];simp [ao4,ar3 1]
theorem a6.CJ (aR:bR P Γ) {o:Oper} {t T:TypeId} {x y:Operand} {i:bQ} {b off:Nat} {cs us:List ah} {v:ah} (ai:o.op = .store t x y) (aM:Γ.get? t=some i) (ab:aN env x=some (.ptr b off))
  (ax:aN env y=some v) (ar:cellsOf v=some us) (hu:af2 us.length i.size=true) (R':us.all fb=true) (au:s b=some (.box T cs)) (fB:ao6 (off+us.length) cs.length=true) {X:ah→ao→Prop} :
  a6 P N o env s (fun _ ak=>ak=s.set b (.box T (eV off us cs))) X:=by
 refine a6.FC (by simp [gH,ai]) fun ro B a w p aK=>?_
 have aE:=aK.aN ab;generalize eo:a.eval x=dN at aE;cases aE;have fl:=aK.aN ax;have nK:=qF fl ar;obtain ⟨info,d,g1,g2,g3,g4,-⟩:=aR.parts aM;obtain ⟨vs,aa,ad,aj⟩:=aK.wf.obj _ _ au;have cc:(a.eval y).cells.size=info.size:=by rw [g4,← ad' hu,← nK.length,ae5]
 have Sa:=ao5 fB;have oh:vs.size=cs.length:=by rw [← ad.length,ae5]
 have eQ:(a.eval y).cells.toList.length=us.length:=nK.length;have hR:=run_storeCells_at P b off T (a.eval y).cells.toList 0 vs w aa (by rw [eQ];omega) (qJ nK R');simp only [aq0] at hR;have eS:bH w p (vs.toList.take off++(a.eval y).cells.toList++vs.toList.drop (off+(a.eval y).cells.toList.length)) (eV off us cs):=by
  rw [Ki _ _ _ Sa,eQ];exact ((ad.take off).append nK).append (ad.drop _)
 obtain ⟨cu,c2,fg⟩:=we aK.wf au (vs':=(vs.toList.take off++(a.eval y).cells.toList++vs.toList.drop (off+(a.eval y).cells.toList.length)).toArray) (fun wg CK=>by
  rw [aa] at CK;cases CK
  simp only [an4,f9,ae9,ai8,eQ,ae5];omega) (by simpa using eS) _ C
 refine ⟨_,_,p,?_,cu,c2,fg,rfl⟩;unfold execOp;rw [ai];simp only [eo];simp only [Instr.storeAt,Instr.sureAddr,storeVar,sizeOf,typeInfo,aa',ae3,i7,run_program,g1,cc,ne_eq,not_true_eq_false,ah9];rw [hR];rfl
theorem dw.freeze {B:fQ} {ro:Option Nat} {a:Act} {w:World} {p:bU} (h:dw N B ro env s a w p) {t b:Nat} {T:TypeId} {cs:List ah} (aM:env.get? t=some (.ptr b 0)) (au:s b=some (.box T cs)) :
  ∃ bh,dw N B ro ((t,.bA cs 0)::env) (s.del b) a w bh∧de w p w bh∧Kept s (s.del b) w p w bh:=by
 obtain ⟨vs,aa,ad,aj⟩:=h.wf.obj _ _ au;have az:b<w.heap.size:=(t8.1 aa).1;have hle:de w p w (p.dX b True):=⟨rfl,rfl,rfl,g7 _,fun _ _ h => .inl h,fun _ _ _=>rfl,fun _ _ h=>h⟩
 have aA:Kept s (s.del b) w p w (p.dX b True):=⟨fun _ _ _=>rfl,fun aY an aB=>by
  by_cases e:aY=b
  ·subst e;exact ao.nL _ _
  ·rw [ao.m3 _ e];exact aB,fun aY o an aB aF=>by
   rcases aF with aF|⟨rfl,_⟩
   ·exact aF
   ·rw [au] at aB;cases aB⟩
 have ca:dq w (p.dX b True) (s.del b):=by
  refine ⟨fun aY o an=>?_,fun aY o aF=>by rcases aF with aF|⟨rfl,_⟩;exact h.wf.lt _ _ aF;exact az⟩;by_cases e:aY=b
  ·subst e;rw [ao.nL] at an;cases an
  ·rw [ao.m3 _ e] at an
   have ai:=h.wf.obj aY o an;have fa:∀ o,p.dX b True aY o↔p aY o:=fun o=>⟨fun aF=>by rcases aF with aF|⟨e',_⟩;exact aF;exact absurd e' e,.inl⟩
   cases o with
   | box t c=>obtain ⟨us,g1,g2,g3⟩:=ai;exact ⟨us,g1,g2.mono hle,fun o aF=>g3 o ((fa o).1 aF)⟩
   | row t sz n=>obtain ⟨cur,g1,g2,g3,g4⟩:=ai;exact ⟨cur,g1,g2,g3,fun o=>(fa o).trans (g4 o)⟩
   | map es=>obtain ⟨cQ,c,g1,g2,g3⟩:=ai;exact ⟨cQ,c,g1,⟨g2.1.mono hle,g2.2.mono hle⟩,g3⟩
   | lp es it l c=>exact ai.qD hle C C
   | tick m=>exact ai
   | loop r env=>exact ⟨ai.1,fun t v h=>(ai.2 t v h).mono hle⟩
 have aK:=h.step hle aA ca;refine ⟨_,⟨aK.size,fun bP v ar=>?_,aK.wf,aK.defs,aK.round,aK.base⟩,hle,aA⟩;simp only [Env.get?] at ar;split at ar
 ·rename_i he
  have:=ad' he;subst this;cases ar;have aE:=h.env t _ aM;generalize a.tmps.getD t undef=dN at aE;cases aE;refine .bA b 0 0 0 vs.toList cs C ?_ (ad.mono hle);intro i v aS;refine ⟨.inr ⟨rfl,trivial⟩,?_⟩;rw [af6,jH aa];simpa using aS
 ·exact aK.env bP v ar
theorem fI.freeze {ops:Array Oper} {Q:b3→Env→ao→Prop} {l:List Nat} (t b:Nat) {T:TypeId} {cs:List ah} (aM:env.get? t=some (.ptr b 0)) (au:s b=some (.box T cs))
  (h:fI P N ops l Q ((t,.bA cs 0)::env) (s.del b)):fI P N ops l Q env s:=by
 intro ro B a w p aK;obtain ⟨bh,hR,hle,aA⟩:=aK.freeze aM au;exact fI.after hle aA h hR
theorem af.freeze {Q:b3→Env→ao→Prop} {c:Code} (t b:Nat) {T:TypeId} {cs:List ah} (aM:env.get? t=some (.ptr b 0)) (au:s b=some (.box T cs))
  (h:af P N c Q ((t,.bA cs 0)::env) (s.del b)):af P N c Q env s:=by
 intro hj B a w p eZ aK;obtain ⟨bh,hR,hle,aA⟩:=aK.freeze aM au;exact mq (h hj B a w bh eZ hR) fun _ _ _ q=>q.after hle aA
end
def ke:ah→ah→Option Bool
 | .str a,.str b=>some (a==b)
 | .int k a,.int k' b=>if k=k' then some (a==b) else none
 | .bool a,.bool b=>some (a==b)
 | _,_=>none
def kf:tf→ah→Bool
 | .str,.str _=>true
 | .int _,.int _ _=>true
 | .bool,.bool _=>true
 | _,_=>false
def i':List (ah×ah)→ah→Option (Option ah)
  | [],_=>some none
  | (k',v)::r,k=>match ke k k' with
    | some true=>some (some v)
    | some false=>i' r k
    | none=>none
def lT:List (ah×ah)→ah→ah→Option (List (ah×ah))
  | [],k,v=>some [(k,v)]
  | (k',fy)::r,k,v=>match ke k k' with
    | some true=>some ((k,v)::r)
    | some false=>match lT r k v with
      | some r'=>some ((k',fy)::r')
      | none=>none
    | none=>none
theorem Kj (a b:ByteArray):(a==b)=(a.data.toList==b.data.toList):=by
 cases a with|mk x=>cases b with|mk y=>
 show (ByteArray.beq ⟨x⟩ ⟨y⟩)=_;unfold ByteArray.beq;simp
theorem CL {w:World} {p:bU} {d:TypeDesc} {hS zR:Value} {k k':ah} {b:Bool} (aa:Rel w p hS k) (ad:Rel w p zR k') (aX:kf (en d) k=true) (h:ke k k'=some b) :
  Instr.sameNow d hS zR=some b:=by
 unfold ke at h;split at h
 ·cases aa with|str a _ e=>cases ad with|str c1 _ e'=>
  cases d<;>simp [en,kf] at aX
  cases h;simp [Instr.sameNow,Kj,e,e']
 ·cases aa;cases ad
  cases d<;>simp [en,kf] at aX
  split at h
  ·cases h;rename_i aA;subst aA;simp [Instr.sameNow]
  ·cases h
 ·cases aa;cases ad
  cases d<;>simp [en,kf] at aX
  cases h;simp [Instr.sameNow]
 ·cases h
theorem Sb {w:World} {p:bU} {hS zR:Value} {k k':ah} (aa:Rel w p hS k) (ad:Rel w p zR k') (h:ke k k'=some true):Instr.sameBits 10000 zR hS=true:=by
 unfold ke at h;split at h
 ·cases aa with|str a _ e=>cases ad with|str c1 _ e'=>
  have h:=beq_iff_eq.1 (ak0.inj h);show (c1==a)=true;rw [Kj,e,e',h];simp
 ·rename_i k a k' b
  cases aa;cases ad;split at h
  ·rename_i aA
   subst aA;have h:=beq_iff_eq.1 (ak0.inj h);show (k==k&&b==a)=true;rw [h];simp
  ·cases h
 ·rename_i a b
  cases aa;cases ad;have h:=beq_iff_eq.1 (ak0.inj h);show (b==a)=true;rw [h];simp
 ·cases h
theorem Sc {w:World} {p:bU} {d:TypeDesc} {hS:Value} {k:ah} (aA:Rel w p hS k) (aX:kf (en d) k=true):∀ (cQ:List MapEntry) (es:List (ah×ah)) (i:Nat) (r:Option ah),
  lR w p cQ es→i' es k=some r →
  match r with
  | none=>Instr.findNow d hS cQ i=some none
  | some v=>∃ j val,Instr.findNow d hS cQ i=some (some (j,val))∧Rel w p val v:=by
 intro cQ
 induction cQ with
 | nil=>
  intro es i r aE h;cases es with
  | nil=>cases h;rfl
  | cons e es=>exact absurd aE.1.length bc
 | cons m cQ aW=>
  intro es i r aE h;cases es with
  | nil=>exact absurd aE.1.length bc
  | cons e es=>
   obtain ⟨k',fy⟩:=e;obtain ⟨ya,tk⟩:=aE;cases ya with|cons _ _ _ _ eF pN=>cases tk with|cons _ _ _ _ kY oi=>
   simp only [i'] at h;split at h
   ·rename_i he
    cases h;exact ⟨i,m.val,by simp only [Instr.findNow,CL aA eF aX he],kY⟩
   ·rename_i he
    have:=aW es (i+1) r ⟨pN,oi⟩ h;have au:=CL aA eF aX he;cases r with
    | none=>simp only [Instr.findNow,au];exact this
    | some v=>obtain ⟨j,val,aa,ad⟩:=this;exact ⟨j,val,by simp only [Instr.findNow,au];exact aa,ad⟩
   ·cases h
theorem Sd {w:World} {p:bU} {d:TypeDesc} {hS vv:Value} {k v:ah} (aA:Rel w p hS k) (ar:Rel w p vv v) (aX:kf (en d) k=true):∀ (cQ:List MapEntry) (es dv:List (ah×ah)) (i:Nat),
  lR w p cQ es→lT es k v=some dv →
  (Instr.findNow d hS cQ i=some none∧∀ n,lR w p (cQ++[{ key:=hS,val:=vv,born:=n }]) dv) ∨
  (∃ j val e,Instr.findNow d hS cQ i=some (some (i+j,val))∧cQ[j]? = some e∧Instr.sameBits 10000 e.key hS=true∧lR w p (cQ.modify j fun e=>{ e with key:=hS,val:=vv }) dv):=by
 intro cQ
 induction cQ with
 | nil=>
  intro es dv i aE h;cases es with
  | nil=>cases h;exact .inl ⟨rfl,fun n=>⟨.cons _ _ _ _ aA .nil,.cons _ _ _ _ ar .nil⟩⟩
  | cons e es=>exact absurd aE.1.length bc
 | cons m cQ aW=>
  intro es dv i aE h;cases es with
  | nil=>exact absurd aE.1.length bc
  | cons e es=>
   obtain ⟨k',fy⟩:=e;obtain ⟨ya,tk⟩:=aE;cases ya with|cons _ _ _ _ eF pN=>cases tk with|cons _ _ _ _ kY oi=>
   simp only [lT] at h;split at h
   ·rename_i he
    cases h;refine .inr ⟨0,m.val,m,by simp only [Instr.findNow,CL aA eF aX he,aq0],rfl,Sb aA eF he,?_⟩;exact ⟨.cons _ _ _ _ aA pN,.cons _ _ _ _ ar oi⟩
   ·rename_i he
    split at h
    ·rename_i r' jo
     cases h;have au:=CL aA eF aX he;rcases aW es r' (i+1) ⟨pN,oi⟩ jo with ⟨aa,ad⟩|⟨j,val,e',aa,ad,aj,a8⟩
     ·exact .inl ⟨by simp only [Instr.findNow,au];exact aa,fun n=>⟨.cons _ _ _ _ eF (ad n).1,.cons _ _ _ _ kY (ad n).2⟩⟩
     ·refine .inr ⟨j+1,val,e',by simp only [Instr.findNow,au];rw [aa];congr 3;omega,by simpa using ad,aj,?_⟩
      simp only [List.modify_succ_cons];exact ⟨.cons _ _ _ _ eF a8.1,.cons _ _ _ _ kY a8.2⟩
    ·cases h
   ·cases h
section
variable {P:Program} {Γ:cw} {N:Nat} {env:Env} {s:ao}
theorem run_checkKey {d:TypeDesc} {t:TypeId} {hS:Value} {k:ah} {w:World} {p:bU} (hu:P.underlying t=some d) (aA:Rel w p hS k) (aX:kf (en d) k=true) (e:Bool) :
  (Instr.checkKey e 10000 t hS).run P w = .ok () w:=by
 have:∀ n,(Instr.checkKey e (n+1) t hS).run P w = .ok () w:=by
  intro n;unfold Instr.checkKey;simp only [aa',run_underlying hu,i7];cases aA<;>simp [kf] at aX<;>cases d<;>simp [en] at aX<;>rfl
 exact this 9999
theorem run_findKey {d:TypeDesc} {t:TypeId} {hS:Value} {es:List MapEntry} {r:Option (Nat×Value)} {w:World} (hu:P.underlying t=some d) (h:Instr.findNow d hS es 0=some r) :
  (Instr.findKey t hS es).run P w = .ok r w:=by
 unfold Instr.findKey;simp only [aa',run_underlying hu,i7,h,ae3]
def CM:Obj→Bool
 | .cells .. => false
 | _=>true
theorem yb {w:World} {r:Nat} {o:Obj} (h:w.heap[r]? = some o) (aD:CM o=true):(getObj r).run P w = .ok o w:=by
 cases o<;>first|(simp [CM] at aD;done)|simp [getObj,aw8,h]
def lU (ok:Bool) (zero:ah):Option ah→ah
 | some v=>if ok then .cr [v,.bool true] else v
 | none=>if ok then .cr [zero,.bool false] else zero
theorem a6.lookup (aR:bR P Γ) {o:Oper} {t dO e1:TypeId} {x y:Operand} {ok:Bool} {it gK aH:bQ} {m:ah} {es:List (ah×ah)} {k z:ah} {r:Option ah} (ai:o.op = .lookup t x y ok)
  (aM:Γ.get? t=some it) (bw:it.bL = .map dO e1) (h1:Γ.get? dO=some gK) (bO:Γ.get? e1=some aH) (ab:aN env x=some m) (ax:aN env y=some k)
  (hm:(∃ b,m = .map b∧s b=some (.map es))∨(m = .td∧es=[])) (aX:kf gK.bL k=true) (aq:i' es k=some r) (bG:hF aH.zero=some z) {X:ah→ao→Prop} :
  a6 P N o env s (fun x ak=>x=lU ok z r∧ak=s) X:=by
 refine a6.kA (by simp [gH,ai]) fun ro B a w p aK=>?_
 obtain ⟨info,d,aa,ad,aj,-⟩:=aR.parts aM;obtain ⟨Se,yc,ky,hQ,tl,-⟩:=aR.parts h1;obtain ⟨jT,kB,FE,zS,Sf,-,-,FF⟩:=aR.parts bO;have ay:d = .map dO e1:=by rw [bw] at aj;cases d<;>simp [en] at aj;rw [aj.1,aj.2]
 subst ay;have aE:=aK.aN ab;have kC:=aK.aN ax;generalize eo:a.eval x=dN at aE;generalize fh:a.eval y=gb at kC;rw [← tl] at aX;have FG:(zeroValue e1).run P w = .ok aH.zero w:=by simp [zeroValue,typeInfo,FE,FF]
 have tail:∀ cQ:Array MapEntry,lR w p cQ.toList es→∃ val,(do
   Instr.checkKey cQ.isEmpty 10000 dO gb
   let (v,Sg) ← match ← Instr.findKey dO gb cQ.toList with
    | some (_,v)=>pure (v,true)
    | none=>do pure (← zeroValue e1,false)
   pure (if ok then .tuple #[v,.bool Sg] else v):Sem Value).run P w = .ok val w∧Rel w p val (lU ok z r):=by
  intro cQ zT;have iC:=Sc kC aX cQ.toList es 0 r zT aq;simp only [aa',run_checkKey hQ kC aX,i7];cases r with
  | none=>
   simp only at iC;simp only [run_findKey hQ iC,i7,aa',FG,ae3,lU];cases ok
   ·exact ⟨_,rfl,qH bG⟩
   ·exact ⟨_,rfl,.cr _ _ (.cons _ _ _ _ (qH bG) (.cons _ _ _ _ (.bool _) .nil))⟩
  | some v=>
   obtain ⟨j,val,g1,g2⟩:=iC;simp only [run_findKey hQ g1,i7,ae3,lU];cases ok
   ·exact ⟨_,rfl,g2⟩
   ·exact ⟨_,rfl,.cr _ _ (.cons _ _ _ _ g2 (.cons _ _ _ _ (.bool _) .nil))⟩
 have FH:∃ val,(Instr.lookup t dN gb ok).run P w = .ok val w∧Rel w p val (lU ok z r):=by
  unfold Instr.lookup;rcases hm with ⟨b,rfl,au⟩|⟨rfl,rfl⟩
  ·cases aE
   obtain ⟨cQ,clock,g1,g2,-⟩:=aK.wf.obj _ _ au;obtain ⟨val,cR,eS⟩:=tail cQ g2;refine ⟨val,?_,eS⟩;simp only [aa',run_underlying ad,i7,yb g1 C,ae3] at cR ⊢;exact cR
  ·cases aE
   obtain ⟨val,cR,eS⟩:=tail #[] ⟨.nil,.nil⟩;refine ⟨val,?_,eS⟩;simp only [aa',run_underlying ad,i7,ae3] at cR ⊢;exact cR
 obtain ⟨val,cR,eS⟩:=FH;refine ⟨val,w,s,p,_,?_,.refl w p,.refl s w p,aK.wf,⟨rfl,rfl⟩,eS⟩;unfold execOp;rw [ai];simp only [eo,fh];exact gW cR
theorem FI {w:World} {p:bU} (ca:dq w p s) {b:Nat} {es:List (ah×ah)} (au:s b=some (.map es)) {mes':Array MapEntry} {clock':Nat} {dv:List (ah×ah)}
    (aE:lR w p mes'.toList dv) (an:∀ e∈mes'.toList,e.born<clock') (ez:(mes'.toList.map (·.born)).Nodup)
    (w':World) (iO:w'={ w with heap:=w.heap.setIfInBounds b (.map mes' clock') }) :
    de w p w' p∧Kept s (s.set b (.map dv)) w p w' p∧dq w' p (s.set b (.map dv)):=by
  subst iO;obtain ⟨cQ,clock,aa,ad,aj,a8⟩:=ca.obj _ _ au;have az:b<w.heap.size:=(t8.1 aa).1;have dU:(w.heap.setIfInBounds b (.map mes' clock'))[b]? = some (.map mes' clock'):=by simp [ag6,az]
  have h0:∀ k,k≠b→(w.heap.setIfInBounds b (.map mes' clock'))[k]? = w.heap[k]? := fun k aA=>by
    rw [ag6,d7 (fun e=>aA e.symm)]
  have hle:de w p { w with heap:=w.heap.setIfInBounds b (.map mes' clock') } p:=by
    refine ⟨rfl,rfl,rfl,by simp,fun _ _ h=>h,fun aY o aF=>?_,fun aY x ab=>?_⟩
    · by_cases e:aY=b
      · subst e;simp only [World.cell?,aa,dU]
      · exact x6 (h0 aY e)
    · by_cases e:aY=b
      · subst e;simp [World.kU,aa] at ab
      · rw [x5 (h0 aY e)];exact ab
  refine ⟨hle,⟨fun aY an aB=>h0 aY (fun e=>by rw [e,au] at aB;simp at aB),fun aY an aB=>by
    rw [ao.fA]
    · exact aB
    · intro e;rw [e,au] at aB;simp at aB,fun _ _ _ _ h=>h⟩,?_,fun aY o aF=>by simpa using ca.lt aY o aF⟩
  intro aY o' og;by_cases e:aY=b
  · subst e
    rw [ao.gr] at og;cases og;exact ⟨mes',clock',dU,⟨aE.1.mono hle,aE.2.mono hle⟩,an,ez⟩
  · rw [ao.fA _ _ e] at og
    have ai:=ca.obj aY o' og;have cN:=h0 aY e;cases o' with
    | box t c=>obtain ⟨us,g1,g2,g3⟩:=ai;exact ⟨us,cN.trans g1,g2.mono hle,g3⟩
    | row t sz n=>obtain ⟨cur,g1,g2,g3,g4⟩:=ai;exact ⟨cur,cN.trans g1,g2,g3,g4⟩
    | map es=>obtain ⟨cQ,c,g1,g2,g3⟩:=ai;exact ⟨cQ,c,cN.trans g1,⟨g2.1.mono hle,g2.2.mono hle⟩,g3⟩
    | lp es it l c=>exact ai.qD hle cN (h0 it (ai.zF aa bc))
    | tick m=>obtain ⟨df,a2,a3,g1⟩:=ai;exact ⟨df,a2,a3,cN.trans g1⟩
    | loop r env=>exact ⟨cN.trans ai.1,fun t v h=>(ai.2 t v h).mono hle⟩
theorem Sh {t dO e1:TypeId} {yc:TypeDesc} {b:Nat} {cQ:Array MapEntry} {clock:Nat} {hS vv:Value} {k:ah} {w:World} {p:bU}
  (ad:P.underlying t=some (.map dO e1)) (hQ:P.underlying dO=some yc) (kC:Rel w p hS k) (aX:kf (en yc) k=true) (g1:w.heap[b]? = some (.map cQ clock)) :
  (∀ (h:Instr.findNow yc hS cQ.toList 0=some none),(Instr.mapUpdate t (.map (some b)) hS vv).run P w = .ok () { w with heap:=w.heap.setIfInBounds b (.map (cQ.push { key:=hS,val:=vv,born:=clock }) (clock+1)) }) ∧
  (∀ j val e,Instr.findNow yc hS cQ.toList 0=some (some (j,val))→cQ[j]? = some e→Instr.sameBits 10000 e.key hS=true →
   (Instr.mapUpdate t (.map (some b)) hS vv).run P w = .ok () { w with heap:=w.heap.setIfInBounds b (.map (cQ.modify j fun e=>{ e with key:=hS,val:=vv }) clock) }):=by
 constructor
 ·intro h
  unfold Instr.mapUpdate;simp only [aa',run_underlying ad,i7,yb g1 C,run_checkKey hQ kC aX,run_findKey hQ h];simp [setObj,aw8,g1]
 ·intro j val e h he an
  unfold Instr.mapUpdate;simp only [aa',run_underlying ad,i7,yb g1 C,run_checkKey hQ kC aX,run_findKey hQ h];simp [Instr.keyThatStays,he,an,setObj,aw8,g1]
theorem a6.mapUpdate (aR:bR P Γ) {o:Oper} {t dO e1:TypeId} {x y z:Operand} {it gK:bQ} {b:Nat} {es dv:List (ah×ah)} {k v:ah} (ai:o.op = .mapUpdate t x y z∨o.op = .insert t x y z)
    (aM:Γ.get? t=some it) (bw:it.bL = .map dO e1) (h1:Γ.get? dO=some gK) (ab:aN env x=some (.map b)) (ax:aN env y=some k) (bG:aN env z=some v)
    (au:s b=some (.map es)) (aX:kf gK.bL k=true) (aF:lT es k v=some dv) {X:ah→ao→Prop} :
    a6 P N o env s (fun _ ak=>ak=s.set b (.map dv)) X:=by
  refine a6.FC (by rcases ai with ai|ai<;>simp [gH,ai]) fun ro B a w p aK=>?_
  obtain ⟨info,d,aa,ad,aj,-⟩:=aR.parts aM;obtain ⟨Se,yc,ky,hQ,tl,-⟩:=aR.parts h1;have ay:d = .map dO e1:=by rw [bw] at aj;cases d<;>simp [en] at aj;rw [aj.1,aj.2]
  subst ay;rw [← tl] at aX;have aE:=aK.aN ab;have kC:=aK.aN ax;have FJ:=aK.aN bG;obtain ⟨cQ,clock,g1,g2,g3,g4⟩:=aK.wf.obj _ _ au;generalize eo:a.eval x=dN at aE;cases aE;obtain ⟨fr,gD⟩:=Sh (vv:=a.eval z) ad hQ kC aX g1;have cR:∀ w',(Instr.mapUpdate t (.map (some b)) (a.eval y) (a.eval z)).run P w = .ok () w'→(execOp a.eval o).run P w = .ok .skip w':=by
    intro w' hw;unfold execOp;rcases ai with ai|ai<;>rw [ai]<;>simp only [eo]<;>simp only [aa',hw,i7,ae3]
  rcases Sd kC FJ aX cQ.toList es dv 0 g2 aF with ⟨ea,dr⟩|⟨j,val,e,ea,dr,dG,m4⟩
  · obtain ⟨cu,c2,fg⟩:=FI aK.wf au (mes':=cQ.push { key:=a.eval y,val:=a.eval z,born:=clock }) (clock':=clock+1) (by simpa using dr clock)
      (by intro e he;simp only [as3,ae2,t6] at he;rcases he with he|rfl;have:=g3 e he;omega;simp)
      (by
        simp only [as3,List.map_append,ae0,ag7]
        rw [List.nodup_append]
        refine ⟨g4,by simp,?_⟩
        intro x ab y ax e
        simp only [t6] at ax
        obtain ⟨m,hm,rfl⟩:=af8.1 ab
        have:=g3 m hm
        omega) _ C
    exact ⟨_,_,p,cR _ (fr ea),cu,c2,fg,rfl⟩
  · rw [af6] at ea
    have wh:((cQ.modify j fun e=>{ e with key:=a.eval y,val:=a.eval z }).toList.map (·.born))=cQ.toList.map (·.born):=by
      rw [Array.toList_modify];apply List.ext_getElem?;intro n;simp only [ae7,List.getElem?_modify];split
      · cases cQ.toList[n]? <;> rfl
      · cases cQ.toList[n]? <;> rfl
    obtain ⟨cu,c2,fg⟩:=FI aK.wf au (mes':=cQ.modify j fun e=>{ e with key:=a.eval y,val:=a.eval z }) (clock':=clock) (by simpa using m4)
      (by
        intro e he
        have:e.born∈((cQ.modify j fun e=>{ e with key:=a.eval y,val:=a.eval z }).toList.map (·.born)):=af8.2 ⟨e,he,rfl⟩
        rw [wh] at this
        obtain ⟨e',vS,an⟩:=af8.1 this
        rw [← an];exact g3 e' vS)
      (by rw [wh];exact g4) _ C
    exact ⟨_,_,p,cR _ (gD j val e ea (by simpa using dr) dG),cu,c2,fg,rfl⟩
theorem a6.makeMap {o:Oper} {t:TypeId} (ai:o.op = .makeMap t none) {X:ah→ao→Prop}:a6 P N o env s (fun x ak=>∃ b,s b=none∧x = .map b∧ak=s.set b (.map [])) X:=by
 refine a6.kA (by simp [gH,ai]) fun ro B a w p aK=>?_
 obtain ⟨aB,hle,aA,ca⟩:=rY aK.wf (.map #[] 0) (.map []) (fun w' iO aE hk=>⟨#[],0,iO,⟨.nil,.nil⟩,by simp,by simp⟩);refine ⟨.map (some w.heap.size),_,_,p,_,?_,hle,aA,ca,⟨w.heap.size,aB,rfl,rfl⟩,.map _⟩;unfold execOp;rw [ai];exact gW C
end
theorem wi {vs:List Value} {sz:Nat} (h:∀ v∈vs,v.cells.size=sz):(flat vs).length=vs.length*sz:=by
 induction vs with
 | nil=>simp [flat]
 | cons v vs aW=>
  have eY:=aW (fun u hu=>h u (i0 _ hu));simp only [flat,aj5,f9,ae5,i5] at eY ⊢;rw [h v (i6 ..)];have Si:(aD1 (fun v=>v.cells.toList) vs).length=vs.length*sz:=eY;rw [Si,ak1];omega
theorem FK (vs us:List Value):flat (vs++us)=flat vs++flat us:=by simp [flat,List.flatMap_append]
theorem Sj {w:World} {p:bU} {s:ao} (ca:dq w p s) {vs:List Value} {xs:List ah} {sz cap:Nat} {e:TypeId} {cur:Array Value} (aE:bH w p vs xs)
    (au:∀ v∈vs,v.cells.size=sz) (o2:cur.size=cap*sz) (wj:cur.toList.take (xs.length*sz)=flat vs) (kD:xs.length≤cap) (hm:xs.length≤9223372036854775807) :
    ∃ bh,s w.heap.size=none∧de w p (w.drew.alloc (.cells cur e)) bh∧Kept s (s.set w.heap.size (.row e sz xs.length)) w p (w.drew.alloc (.cells cur e)) bh ∧
      dq (w.drew.alloc (.cells cur e)) bh (s.set w.heap.size (.row e sz xs.length))∧Rel (w.drew.alloc (.cells cur e)) bh (.slice (some ⟨w.heap.size,0,none⟩) xs.length cap) (.aG sz xs (.own w.heap.size)):=by
  have aB:s w.heap.size=none:=by
    cases h:s w.heap.size with
    | none=>rfl
    | some o'=>exact absurd (ca.obj _ _ h).lt ag
  let bh:bU:=fun b o=>p b o∨(b=w.heap.size∧o<xs.length*sz)
  have o3:(w.drew.alloc (.cells cur e)).heap[w.heap.size]? = some (.cells cur e):=uA w.drew _;have hold:∀ b,b<w.heap.size→(w.drew.alloc (.cells cur e)).heap[b]? = w.heap[b]? := fun b an=>mv w.drew _ b an
  have hle:de w p (w.drew.alloc (.cells cur e)) bh:=de.of_heap C C C bc (fun _ _ h => .inl h) ca.lt hold;have hlen:=wi au;have hmul:xs.length*sz≤cap*sz:=am9 _ kD;refine ⟨bh,aB,hle,⟨fun b an _=>hold b an,fun b an au=>by rw [ao.fA _ _ ag];exact au,fun b o an _ aF=>by rcases aF with aF|⟨rfl,_⟩;exact aF;omega⟩,?_,?_⟩
  · have aq:dq (w.drew.alloc (.cells cur e)) bh s:=ca.grow hle hold (fun b o an aF=>by rcases aF with aF|⟨rfl,_⟩;exact aF;omega) (fun b o aF=>by
      rcases aF with aF|⟨rfl,_⟩
      · have:=ca.lt b o aF;simp;omega
      · simp)
    refine ⟨fun b o an=>?_,aq.lt⟩;by_cases e':b=w.heap.size
    · subst e'
      rw [ao.gr] at an;cases an;refine ⟨cur,o3,by omega,⟨cap,o2⟩,fun o=>⟨fun aF=>?_,fun ai => .inr ⟨rfl,ai⟩⟩⟩;rcases aF with aF|⟨_,ai⟩
      · exact absurd (ca.lt _ _ aF) ag
      · exact ai
    · rw [ao.fA _ _ e'] at an;exact aq.obj b o an
  · refine .aG _ 0 _ _ _ vs _ _ bc rfl ?_ (aE.mono hle) au hm kD (fun h=>by cases h) (fun b an=>?_)
    · intro i v ar
      have aS:i<xs.length*sz:=by
        have:=(t7.1 ar).1;rw [hlen,aE.length] at this;exact this
      refine ⟨.inr ⟨rfl,by omega⟩,?_⟩;rw [af6,jH o3];rw [← wj,ai2,f7 aS] at ar;simpa using ar
    · cases an
      exact ⟨rfl,rfl,e,by simp only [World.kU,o3,o2]⟩
theorem Sk {w:World} {p:bU} {s:ao} (ca:dq w p s) {b:Nat} {e:TypeId} {sz n cap:Nat} (wk:s b=some (.row e sz n)) {cur:Array Value} (jF:w.heap[b]? = some (.cells cur e (0,0)))
  (o2:cur.size=cap*sz) {vs us:List Value} {xs ys:List ah} (aB:n=xs.length) (aE:bH w p vs xs) (hu:bH w p us ys) (au:∀ v∈vs,v.cells.size=sz) (kZ:∀ v∈us,v.cells.size=sz)
  (wj:cur.toList.take (n*sz)=flat vs) (kD:n+us.length≤cap) (hm:n+us.length≤9223372036854775807) :
  ∃ bh,de w p (w.setRow b (cur.toList.take (n*sz)++flat us++cur.toList.drop (n*sz+(flat us).length)).toArray) bh ∧
   Kept s ((s.del b).set b (.row e sz (n+us.length))) w p (w.setRow b (cur.toList.take (n*sz)++flat us++cur.toList.drop (n*sz+(flat us).length)).toArray) bh ∧
   dq (w.setRow b (cur.toList.take (n*sz)++flat us++cur.toList.drop (n*sz+(flat us).length)).toArray) bh ((s.del b).set b (.row e sz (n+us.length))) ∧
   Rel (w.setRow b (cur.toList.take (n*sz)++flat us++cur.toList.drop (n*sz+(flat us).length)).toArray) bh (.slice (some ⟨b,0,none⟩) (n+us.length) cap) (.aG sz (xs++ys) (.own b)):=by
 obtain ⟨acH,aa,ad,aj,a8⟩:=ca.obj _ _ wk;rw [jF] at aa;cases aa;have kE:=wi kZ;have fz:=wi au;have hmul:n*sz+us.length*sz≤cap*sz:=by rw [← ak1];exact am9 _ kD
 generalize zU:(cur.toList.take (n*sz)++flat us++cur.toList.drop (n*sz+(flat us).length)).toArray=new;have pO:new.toList=cur.toList.take (n*sz)++flat us++cur.toList.drop (n*sz+(flat us).length):=by rw [← zU]
 have b9:cur.toList.length=cap*sz:=by rw [ae5,o2]
 have CN:new.size=cur.size:=by rw [← ae5,pO];simp only [f9,ae9,ai8,kE,b9,o2];omega
 have az:b<w.heap.size:=(t8.1 jF).1;have dU:=setRow_heap w b cur new e (0,0) jF;have h0:∀ k,k≠b→(w.setRow b new).heap[k]? = w.heap[k]? := fun k aA=>setRow_other w b k new aA
 have pP:∀ o,o<n*sz→new[o]? = cur[o]? := fun o ai=>by
  have:new.toList[o]? = cur.toList[o]?:=by
   rw [pO,ag',af9 x0,ai2,f7 ai]
  simpa using this
 let bh:bU:=fun aY o=>p aY o∨(aY=b∧o<(n+us.length)*sz)
 have hle:de w p (w.setRow b new) bh:=by
  refine ⟨rfl,rfl,rfl,by simp,fun _ _ h => .inl h,fun aY o aF=>?_,fun aY x ab=>?_⟩
  ·by_cases e':aY=b
   ·subst e'
    rw [jH dU,jH jF];exact pP o ((a8 o).1 aF)
   ·exact x6 (h0 aY e')
  ·by_cases e':aY=b
   ·subst e'
    simp only [World.kU,jF,dU] at ab ⊢;rw [CN];exact ab
   ·rw [x5 (h0 aY e')];exact ab
 refine ⟨bh,hle,⟨fun aY an aB=>h0 aY (fun e'=>by rw [e',wk] at aB;simp at aB),fun aY an aB=>?_,fun aY o an aB aF=>?_⟩,⟨fun aY o' og=>?_,fun aY o aF=>?_⟩,?_⟩
 ·have cP:aY≠b:=fun e'=>by rw [e',wk] at aB;simp at aB
  rw [ao.fA _ _ cP,ao.m3 _ cP];exact aB
 ·rcases aF with aF|⟨e',_⟩
  ·exact aF
  ·rw [e',wk] at aB;simp at aB
 ·by_cases e':aY=b
  ·subst e'
   rw [ao.gr] at og;cases og;refine ⟨new,dU,by rw [CN,o2,ak1];omega,⟨cap,by rw [CN,o2]⟩,fun o=>⟨fun aF=>?_,fun ai => .inr ⟨rfl,ai⟩⟩⟩;rcases aF with aF|⟨_,ai⟩
   ·have:=(a8 o).1 aF;rw [ak1];omega
   ·exact ai
  ·rw [ao.fA _ _ e',ao.m3 _ e'] at og
   have ai:=ca.obj aY o' og;have cN:=h0 aY e';have Kk:∀ o,bh aY o↔p aY o:=fun o=>⟨fun aF=>by rcases aF with aF|⟨Sl,_⟩;exact aF;exact absurd Sl e',.inl⟩
   cases o' with
   | box t c=>obtain ⟨us,g1,g2,g3⟩:=ai;exact ⟨us,cN.trans g1,g2.mono hle,fun o aF=>g3 o ((Kk o).1 aF)⟩
   | row t sz n=>obtain ⟨cur,g1,g2,g3,g4⟩:=ai;exact ⟨cur,cN.trans g1,g2,g3,fun o=>(Kk o).trans (g4 o)⟩
   | map es=>obtain ⟨cQ,c,g1,g2,g3⟩:=ai;exact ⟨cQ,c,cN.trans g1,⟨g2.1.mono hle,g2.2.mono hle⟩,g3⟩
   | lp es it l c=>exact ai.qD hle cN (h0 it (ai.zF jF bc))
   | tick m=>obtain ⟨df,a2,a3,g1⟩:=ai;exact ⟨df,a2,a3,cN.trans g1⟩
   | loop r env=>exact ⟨cN.trans ai.1,fun t v h=>(ai.2 t v h).mono hle⟩
 ·rcases aF with aF|⟨rfl,_⟩
  ·simpa using ca.lt aY o aF
  ·simpa using az
 ·have hH:(xs++ys).length=n+us.length:=by rw [f9,aB,hu.length]
  refine .aG _ 0 _ _ _ (vs++us) _ _ bc hH.symm ?_ ((aE.append hu).mono hle) (fun v ar=>?_) hm kD (fun h=>by cases h) (fun pQ oX=>?_)
  ·intro i v ar
   have kz:flat (vs++us)=new.toList.take ((n+us.length)*sz):=by
    rw [FK,pO,← wj,ak1,← kE];have:n*sz+(flat us).length=(cur.toList.take (n*sz)++flat us).length:=by rw [f9,ae9,b9];omega
    rw [this,ay4]
   have aS:i<(n+us.length)*sz:=by
    have:=(t7.1 ar).1;rw [kz,ae9] at this;omega
   refine ⟨.inr ⟨rfl,by omega⟩,?_⟩;rw [af6,jH dU];rw [kz,ai2,f7 aS] at ar;simpa using ar
  ·rcases ae2.1 ar with ar|ar
   ·exact au v ar
   ·exact kZ v ar
  ·cases oX
   exact ⟨rfl,rfl,e,by simp only [World.kU,dU,CN,o2]⟩
section
variable {P:Program} {Γ:cw} {N:Nat} {env:Env} {s:ao}
theorem CO {t bP ty e:TypeId} {c4:TypeDesc} {i:TypeInfo} (w:World) (aM:P.underlying t=some (.slice e)) (c7:P.underlying bP=some c4) (cg:∀ k,c4 ≠ .int k) (aS:P.info? e=some i)
  (g sLen sCap:Nat) (cur:Array Value) (aq:w.heap[g]? = some (.cells cur e (0,0))) {xv:Value} {m:Nat} {news:List Value}
  (aC:(Builtin.lenOf xv).run P w = .ok m w) (aX:(Builtin.firstCells i.size m xv).run P w = .ok news.toArray w) (aa:∀ u∈news,u.oneCell'=true)
  (Sm:sLen+m≤sCap) (fB:sLen*i.size+news.length≤cur.size) :
  (Builtin.append_ #[t,bP] ty #[.slice (some ⟨g,0,none⟩) sLen sCap,xv]).run P w =
   .ok (.slice (some ⟨g,0,none⟩) (sLen+m) sCap) (w.setRow g (cur.toList.take (sLen*i.size)++news++cur.toList.drop (sLen*i.size+news.length)).toArray):=by
 have aK:=run_storeCells_at P g (sLen*i.size) e news 0 cur w aq (by simpa using fB) aa;simp only [aq0] at aK;have bG:(match c4 with | .int _=>true|_=>false)=false:=by cases c4<;>first|rfl|exact absurd C (cg _)
 simp [Builtin.append_,run_underlying aM,run_underlying c7,sizeOf,typeInfo,aS,bG,aC,Sm,aX,Addr.add_lit,aK]
theorem zV {t bP ty e:TypeId} {c4:TypeDesc} {i:TypeInfo} {z:Value} (w:World) (aM:P.underlying t=some (.slice e)) (c7:P.underlying bP=some c4) (cg:∀ k,c4 ≠ .int k) (aS:P.info? e=some i) (bG:i.zero=some z)
  {base:Option Addr} {sLen sCap:Nat} {xv:Value} {m:Nat} {olds news:List Value}
  (aC:(Builtin.lenOf xv).run P w = .ok m w) (tm:(Builtin.firstCells i.size sLen (.slice base sLen sCap)).run P w.drew = .ok olds.toArray w.drew) (aX:(Builtin.firstCells i.size m xv).run P w.drew = .ok news.toArray w.drew)
  (aq:sCap<sLen+m) (eA:((sLen+m:Nat):Int)≤9223372036854775807) (fB:Builtin.nextslicecap (sLen+m) sCap*i.bytes≤281474976710656) :
  (Builtin.append_ #[t,bP] ty #[.slice base sLen sCap,xv]).run P w =
   .ok (.slice (some ⟨w.heap.size,0,none⟩) (sLen+m) (grownCap w (sLen+m) sCap e))
    (w.drew.alloc (.cells (olds++news++(Builtin.zeroCells z.cells (grownCap w (sLen+m) sCap e-(sLen+m))).toList).toArray e)):=by
 have aB:¬ (sLen+m≤sCap):=by omega
 have Sn:¬ (9223372036854775807<((sLen:Int)+(m:Int))):=by omega
 have Sp:¬ (281474976710656<Builtin.nextslicecap (sLen+m) sCap*i.bytes):=by omega
 have tn:(match c4 with | .int _=>true|_=>false)=false:=by cases c4<;>first|rfl|exact absurd C (cg _)
 simp [Builtin.append_,run_underlying aM,run_underlying c7,sizeOf,typeInfo,zeroValue,aS,bG,tn,aC,aB,Sn,Sp,Question.forced,aX,tm,newRow,grownCap];congr 2;apply ap9;simp [ag']
def lu (sz:Nat) (x:ah):Bool:=match cellsOf x with
 | some cs=>af2 cs.length sz&&cs.all fb
 | none=>false
theorem Sq {w:World} {p:bU} {sz:Nat}:∀ {vs:List Value} {xs:List ah},bH w p vs xs→(∀ x∈xs,lu sz x=true)→∀ u∈flat vs,u.oneCell'=true:=by
 intro vs
 induction vs with
 | nil=>intro xs _ _ u hu;simp [flat] at hu
 | cons v vs aW=>
  intro xs h ab u hu;cases h with
  | cons _ x _ xs aE aM=>
  simp only [flat,aj5,ae2] at hu;rcases hu with hu|hu
  ·have:=ab x (i6 ..)
   unfold lu at this;split at this
   ·rename_i cs hG
    simp only [f4] at this;exact qJ (qF aE hG) this.2 u hu
   ·cases this
  ·exact aW aM (fun y ax=>ab y (i0 _ ax)) u hu
theorem qK {w:World} {p:bU} {v:Value} {sz sz':Nat} {xs:List ah} {own:bV} (h:Rel w p v (.aG sz xs own)) (cc:xs=[]∨sz=sz') :
  ∃ vs,bH w p vs xs∧(∀ u∈vs,u.cells.size=sz')∧(∀ P,(Builtin.lenOf v).run P w = .ok xs.length w) ∧
   (∀ P (w':World),(∀ b o,p b o→w'.cell? ⟨b,o,none⟩=w.cell? ⟨b,o,none⟩)→(Builtin.firstCells sz' xs.length v).run P w' = .ok (flat vs).toArray w') ∧
   ∃ base cap,v = .slice base xs.length cap:=by
 cases h with
 | hY _ _ _=>exact ⟨[],.nil,by simp,fun P=>rfl,fun P w' _=>rfl,_,_,rfl⟩
 | iA a _ _ _=>exact ⟨[],.nil,by simp,fun P=>rfl,fun P w' _=>run_firstCells_some w' sz' 0 a _ _ [] bc bc,_,_,rfl⟩
 | aG g off n cap _ vs _ _ aB aC aD aE au hm aA b9 ai=>
  have wm:∀ u∈vs,u.cells.size=sz':=by
   rcases cc with rfl|rfl
   ·have:vs=[]:=ai9 (by rw [aE.length];rfl)
    subst this;simp
   ·exact au
  subst aC;refine ⟨vs,aE,wm,fun P=>rfl,fun P w' iO=>?_,_,_,rfl⟩;refine run_firstCells_some w' sz' xs.length ⟨g,off,none⟩ _ _ (flat vs) (by rw [wi wm,aE.length]) ?_;intro j u hu;obtain ⟨aa,ad⟩:=aD j u hu;rw [lr,iO _ _ aa];exact ad
theorem a6.append (aR:bR P Γ) {o:Oper} {t bP e:TypeId} {x y:Operand} {it cJ aH:bQ} {eg bZ:Nat} {xs ys:List ah} {rZ dD:bV}
    (ai:o.op = .call { callee := .builtin .append,args := #[x,y],argTypes := #[t,bP] }) (aM:Γ.get? t=some it) (bw:it.bL = .aG e) (c7:Γ.get? bP=some cJ) (dH:∀ k,cJ.bL ≠ .int k)
    (bO:Γ.get? e=some aH) (ab:aN env x=some (.aG eg xs rZ)) (ax:aN env y=some (.aG bZ ys dD)) (hI:xs=[]∨eg=aH.size) (dg:ys=[]∨bZ=aH.size)
    (ed:af2 aH.zero.cells.size aH.size=true) (dY:∀ y∈ys,lu aH.size y=true) (an:(xs.length+ys.length)*aH.bytes≤140737488355328) (eA:xs.length+ys.length≤9223372036854775807)
    (zW:(rZ = .nil∨rZ = .clip)∨∃ b,rZ = .own b∧eg=aH.size∧s b=some (.row e aH.size xs.length)) {X:ah→ao→Prop} :
    a6 P N o env s (fun r ak=>(ys=[]∧(rZ = .nil∨rZ = .clip)∧r = .aG aH.size xs rZ∧ak=s) ∨
      (∃ s₁,(s₁=s∨∃ b,rZ = .own b∧s₁=s.del b)∧∃ b,s₁ b=none∧r = .aG aH.size (xs++ys) (.own b)∧ak=s₁.set b (.row e aH.size (xs.length+ys.length)))) X:=by
  refine a6.kA (by simp [gH,ai]) fun ro B a w p aK=>?_
  obtain ⟨info,d,aa,ad,aj,-⟩:=aR.parts aM;obtain ⟨m0,c4,g1,g2,g3,-⟩:=aR.parts c7;obtain ⟨jT,kB,cu,c2,fg,eG,jU,jq⟩:=aR.parts bO;have ay:d = .slice e:=by rw [bw] at aj;cases d<;>simp [en] at aj;rw [aj]
  subst ay;have cg:∀ k,c4 ≠ .int k:=fun k e'=>by subst e';exact dH k g3.symm
  have gh:=aK.aN ab;have fl:=aK.aN ax;have eO:∀ val w',(Builtin.append_ #[t,bP] o.type #[a.eval x,a.eval y]).run P w = .ok val w'→(execOp a.eval o).run P w = .ok (.value val) w':=by
    intro val w' h;unfold execOp;rw [ai];simp only [resolve,invoke,builtin,aa',ae3,i7,ar4,ae0,ag7,h]
  generalize eo:a.eval x=dN at gh eO;generalize fh:a.eval y=gb at fl eO;obtain ⟨us,im,pR,jV,kg,tp,tq,tr⟩:=qK fl dg;obtain ⟨vs,uI,m5,acI,Kl,zX,pS,ts⟩:=qK gh hI;have iD:=Sq im dY;have oZ:=ad' ed;have FL:=wi pR;have Km:=wi m5;have m6:=im.length;have qL:=uI.length;have Kn:∀ s₁:ao,(s₁=s∨∃ b,rZ = .own b∧s₁=s.del b)→pS<xs.length+ys.length →
      ∃ val w' ak bh qE,(Builtin.append_ #[t,bP] o.type #[dN,gb]).run P w = .ok val w'∧de w p w' bh∧Kept s ak w p w' bh∧dq w' bh ak ∧
        (∃ b,s₁ b=none∧qE = .aG aH.size (xs++ys) (.own b)∧ak=s₁.set b (.row e aH.size (xs.length+ys.length)))∧Rel w' bh val qE:=by
    intro s₁ zY az;have fR:ao.Sub s₁ s:=by
      rcases zY with rfl|⟨b,-,rfl⟩
      · exact ao.o1 _
      · intro aY;by_cases e':aY=b
        · subst e';exact .inr (ao.nL _ _)
        · exact .inl (ao.m3 _ e')
    have fB:=growslice_fits (need:=xs.length+ys.length) (old:=pS) (bytes:=aH.bytes) az an;have cR:=zV (ty:=o.type) w ad g2 cg cu jq (base:=zX) (sLen:=xs.length) (sCap:=pS) (m:=ys.length) (olds:=flat vs) (news:=flat us) (jV P)
      (by rw [← ts,eG];exact Kl P w.drew (fun _ _ _=>rfl)) (by rw [eG];exact kg P w.drew (fun _ _ _=>rfl)) az ag (by rw [jU];exact fB)
    rw [← ts] at cR;have nM:=an0 (show xs.length+ys.length≤xs.length+ys.length from g7 _) (show xs.length+ys.length≤grownCap w (xs.length+ys.length) pS e from by simp [grownCap,Question.cut]);have mx:(Builtin.zeroCells aH.zero.cells (grownCap w (xs.length+ys.length) pS e-(xs.length+ys.length))).toList.length=(grownCap w (xs.length+ys.length) pS e-(xs.length+ys.length))*aH.zero.cells.size:=by
      rw [ae5];simp [Builtin.zeroCells]
    rw [oZ] at mx;have yd:(xs++ys).length=xs.length+ys.length:=f9;obtain ⟨bh,ea,dr,dG,m4,tt⟩:=Sj (s:=s₁) (aK.wf.sub fR) (vs:=vs++us) (xs:=xs++ys) (sz:=aH.size) (cap:=grownCap w (xs.length+ys.length) pS e) (e:=e)
      (cur:=(flat vs++flat us++(Builtin.zeroCells aH.zero.cells (grownCap w (xs.length+ys.length) pS e-(xs.length+ys.length))).toList).toArray) (uI.append im)
      (fun v ar=>by rcases ae2.1 ar with ar|ar;exact m5 v ar;exact pR v ar)
      (by
        simp only [an4,f9,Km,FL,mx,qL,m6,← ak1]
        congr 1;omega)
      (by
        have:(xs++ys).length*aH.size=(flat vs++flat us).length:=by rw [yd,f9,Km,FL,qL,m6,ak1]
        rw [this,FK];simp only [ay4])
      (by rw [yd];exact nM) (by rw [yd];exact eA)
    rw [yd] at dG m4 tt;exact ⟨_,_,_,bh,_,cR,dr,dG.x4 fR,m4,⟨w.heap.size,ea,rfl,rfl⟩,tt⟩
  rcases zW with zW|⟨b,rfl,Sr,wk⟩
  · by_cases az:pS<xs.length+ys.length
    · obtain ⟨val,w',ak,bh,qE,fr,gD,hB,ja,my,mz⟩:=Kn s (.inl rfl) az
      exact ⟨val,w',ak,bh,qE,eO _ _ fr,gD,hB,ja,.inr ⟨s,.inl C,my⟩,mz⟩
    ·
      have kD:pS=xs.length:=by
        cases gh with
        | hY=>simp at ts;omega
        | iA=>simp at ts;omega
        | aG g off n cap _ vs' _ _ aB aC aD aE au hm aA b9 ai=>
          simp only [Value.slice.injEq] at ts;rcases zW with rfl|rfl
          · exact absurd C aB
          · rw [← ts.2.2,b9 C,aC]
      have tg:ys=[]:=ai9 ag;subst tg;have CK:us=[]:=ai9 (by simpa using m6);subst CK;refine ⟨dN,w,s,p,.aG aH.size xs rZ,eO _ _ ?_,.refl w p,.refl s w p,aK.wf,.inl ⟨rfl,zW,rfl,rfl⟩,?_⟩
      · have bG:(match c4 with | .int _=>true|_=>false)=false:=by cases c4<;>first|rfl|exact absurd C (cg _)
        have hle:xs.length≤pS:=by omega
        have pT:=kg P w (fun _ _ _=>rfl);simp only [List.length_nil] at pT jV;have uJ:=jV P;rw [ts];cases zX with
        | none=>simp [Builtin.append_,run_underlying ad,run_underlying g2,sizeOf,typeInfo,cu,bG,uJ,eG,pT,hle,flat]
        | some adS=>simp [Builtin.append_,run_underlying ad,run_underlying g2,sizeOf,typeInfo,cu,bG,uJ,eG,pT,hle,flat,storeCells]
      · rcases hI with rfl|rfl
        · cases gh with
          | hY _ _ h=>exact .hY _ _ h
          | iA a _ _ h=>exact .iA a _ _ h
          | aG g off n cap _ vs' _ _ aB aC aD aE au hm aA b9 ai=>
            have:vs'=[]:=ai9 (by rw [aE.length];rfl);subst this;exact .aG g off n cap _ [] _ _ aB aC aD aE bc hm aA b9 (fun b an=>by rcases zW with rfl|rfl<;>cases an)
        · exact gh
  · by_cases az:pS<xs.length+ys.length
    · obtain ⟨val,w',ak,bh,qE,fr,gD,hB,ja,my,mz⟩:=Kn (s.del b) (.inr ⟨b,rfl,rfl⟩) az
      exact ⟨val,w',ak,bh,qE,eO _ _ fr,gD,hB,ja,.inr ⟨_,.inr ⟨b,rfl,rfl⟩,my⟩,mz⟩
    · cases gh with
      | hY _ _ h=>exact absurd C (h b)
      | iA _ _ _ h=>rcases h with h|h<;>cases h
      | aG g off n cap _ vs' _ _ aB aC aD aE au hm aA b9 ai=>
        obtain ⟨rfl,rfl,e',Ko⟩:=ai b rfl;obtain ⟨cur,cW,c6,⟨cb,eW⟩,o4⟩:=aK.wf.obj _ _ wk;simp only [Value.slice.injEq] at ts;obtain ⟨rfl,-,rfl⟩:=ts;have o2:cur.size=cap*eg:=by
          simp only [World.kU,cW] at Ko;simpa using ae6 Prod.snd (ak0.inj Ko)
        have FM:cur.size=cap*aH.size:=by rw [← Sr];exact o2
        have wj:cur.toList.take (xs.length*aH.size)=flat vs:=by
          have b6:=Kl P w (fun _ _ _=>rfl);have bW:=run_firstCells_some (P:=P) w aH.size xs.length ⟨b,0,none⟩ n cap (cur.toList.take (xs.length*aH.size))
            (by have b9:cur.toList.length=cap*aH.size:=by rw [ae5,FM]
                rw [ae9,b9];have:=am9 aH.size (show xs.length≤cap by omega);omega)
            (fun j u hu=>by
              rw [lr,af6,jH cW]
              rw [ai2] at hu
              split at hu
              · simpa using hu
              · cases hu)
          rw [bW] at b6;have:=Result.ok.inj b6;simpa using this.1
        have cR:=CO (ty:=o.type) w ad g2 cg cu b xs.length cap cur cW (jV P) (by rw [eG];exact kg P w (fun _ _ _=>rfl)) iD ag (by rw [eG,FL,FM,m6,← ak1];exact am9 _ ag);rw [eG] at cR;obtain ⟨bh,fr,gD,hB,ja⟩:=Sk aK.wf wk cW FM rfl uI im m5 pR wj (by rw [m6];omega) (by rw [m6];exact eA);rw [m6] at gD hB ja;subst aC;exact ⟨_,_,_,bh,_,eO _ _ cR,fr,gD,hB,.inr ⟨_,.inr ⟨_,rfl,rfl⟩,_,ao.nL _ _,rfl,rfl⟩,ja⟩
end
inductive eB where
 | ret (v:ah)
 | panic (v:ah)
def Ss (w:World) (p:bU):Ending→eB→Prop
 | .returned v,.ret x=>Rel w p v x
 | .panicked dx,.panic x=>∃ v,x2 v dx∧Rel w p v x
 | _,_=>False
def wo (s:ao) (w:World) (p:bU) (R:eB→ao→Prop) (e:Ending) (w':World):Prop:=
 ∃ o ak bh,Ss w' bh e o∧R o ak∧de w p w' bh∧Kept s ak w p w' bh∧dq w' bh ak
def hT (P:Program) (fv:ah) (args:List ah) (s:ao) (R:eB→ao→Prop):Prop:=
 ∀ w p v vs,dq w p s→Rel w p v fv→bH w p vs args→pK P ((do let d ← Deferred.ofValue v vs.toArray;invoke d.target d.args:Sem Next).run P w) (wo s w p R)
def tu (P:Program) (f:FuncId):Prop:=∀ args w,(callFunc f args).run P w = .ok (.enter f args) w
def hl (P:Program) (f:FuncId) (args:List ah) (s:ao) (R:eB→ao→Prop):Prop:=
 tu P f∧∀ w p vs,dq w p s→bH w p vs args→s' P f vs.toArray w (wo s w p R)
theorem zZ {P:Program} {f:FuncId} {fn:Func} (aX:P.funcs[f]? = some fn) (aB:(fn.name == "runtime.NumGoroutine")=false) (an:fn.body.isNone=false):tu P f:=by
 intro args w;unfold callFunc;simp only [aa',run_program,i7,aX,aB,an,af7,ah9,ae3]
theorem wo.mono {s:ao} {w:World} {p:bU} {R du:eB→ao→Prop} (aE:∀ o s,R o s→du o s) {e:Ending} {w':World} (h:wo s w p R e w'):wo s w p du e w' :=
 let ⟨o,ak,bh,aa,ad,aj⟩:=h;⟨o,ak,bh,aa,aE _ _ ad,aj⟩
theorem hT.mono {P:Program} {fv:ah} {args:List ah} {s:ao} {R du:eB→ao→Prop} (h:hT P fv args s R) (aE:∀ o s,R o s→du o s):hT P fv args s du :=
 fun w p v vs aa ad aj=>(h w p v vs aa ad aj).mono fun _ _ q=>q.mono aE
theorem hl.mono {P:Program} {f:FuncId} {args:List ah} {s:ao} {R du:eB→ao→Prop} (h:hl P f args s R) (aE:∀ o s,R o s→du o s):hl P f args s du :=
 ⟨h.1,fun w p vs aa ad=>(h.2 w p vs aa ad).mono fun _ _ q=>q.mono aE⟩
theorem hT.fm {P:Program} {f:FuncId} {first cap args:List ah} {s:ao} {R:eB→ao→Prop} (h:hl P f (first++(args++cap)) s R):hT P (.func f first cap) args s R:=by
 intro w p v vs ca ar eM;cases ar with
 | func _ as cs _ _ aO aD=>
 have cR:(do let d ← Deferred.ofValue (.func (.func f) as cs) vs.toArray;invoke d.target d.args:Sem Next).run P w = .ok (.enter f (as++vs.toArray++cs)) w:=by
  simp only [Deferred.ofValue,aa',ae3,i7,invoke];exact h.1 _ _
 rw [cR];have:=h.2 w p (as.toList++(vs++cs.toList)) ca (aO.append (eM.append aD));have e:(as.toList++(vs++cs.toList)).toArray=as++vs.toArray++cs:=by apply ap9;simp
 rw [e] at this;exact this
section
variable {P:Program} {Γ:cw} {N:Nat} {env:Env} {s:ao}
theorem a6.call {o:Oper} {g:Operand} {as:Array Operand} {cZ:Array TypeId} {fv:ah} {xs:List ah} {R:eB→ao→Prop}
  (ai:o.op = .call { callee := .value g,args:=as,argTypes:=cZ }) (aq:aN env g=some fv) (aO:fS env as.toList=some xs) (h:hT P fv xs s R) :
  a6 P N o env s (fun x ak=>R (.ret x) ak) (fun x ak=>R (.panic x) ak):=by
 refine ⟨by simp [gH,ai],fun ro B a w p aK=>?_⟩;have cR:=h w p (a.eval g) (as.toList.map a.eval) aK.wf (aK.aN aq) (CA aK aO);have he:execOp a.eval o=(do let d ← Deferred.ofValue (a.eval g) (as.toList.map a.eval).toArray;invoke d.target d.args:Sem Next):=by
  unfold execOp;rw [ai];simp only [resolve];congr 1;congr 1;apply ap9;simp
 rw [he];refine cR.mono ?_;rintro e w' ⟨out,ak,bh,aa,ad,aj,a8,bB⟩;refine ⟨ak,bh,aj,a8,bB,?_⟩;cases e<;>cases out<;>first|exact aa.elim|skip
 ·exact ⟨_,ad,aa⟩
 ·obtain ⟨v,FN,FO⟩:=aa;exact ⟨v,_,FN,ad,FO⟩
theorem fI.call {ops:Array Oper} {Q:b3→Env→ao→Prop} {i:Nat} {l:List Nat} {o:Oper} {d:Nat} {f:FuncId} {as:Array Operand} {cZ:Array TypeId} {xs:List ah} {R:eB→ao→Prop}
  (ai:ops[i]? = some o) (aq:guardOf ops env o=some true) (ay:o.dst=some d) (a1:z2 d N=true) (b1:o.op = .call { callee := .value (.func f),args:=as,argTypes:=cZ })
  (aO:fS env as.toList=some xs) (h:hl P f xs s R) (aA:∀ x ak,R (.ret x) ak→fI P N ops l Q ((d,x)::env) ak) (ab:∀ x ak,R (.panic x) ak→Q (.panic x) env ak) :
  fI P N ops (i::l) Q env s:=
 fI.op ai aq ay a1 (a6.call b1 (fv := .func f [] []) C aO (hT.fm hx)) aA ab
theorem fI.FP {ops:Array Oper} {Q:b3→Env→ao→Prop} {i:Nat} {l:List Nat} {o:Oper} {d:Nat} {g:Operand} {fv:ah} {as:Array Operand} {cZ:Array TypeId} {xs:List ah} {R:eB→ao→Prop}
  (ai:ops[i]? = some o) (aq:guardOf ops env o=some true) (ay:o.dst=some d) (a1:z2 d N=true) (b1:o.op = .call { callee := .value g,args:=as,argTypes:=cZ })
  (ar:aN env g=some fv) (aO:fS env as.toList=some xs) (h:hT P fv xs s R) (aA:∀ x ak,R (.ret x) ak→fI P N ops l Q ((d,x)::env) ak) (ab:∀ x ak,R (.panic x) ak→Q (.panic x) env ak) :
  fI P N ops (i::l) Q env s:=
 fI.op ai aq ay a1 (a6.call b1 ar aO h) aA ab
def pU (P:Program) (t:TypeId) (name:String) (f:FuncId):Prop:=∀ v w,(method (P.types.size+Made.depth) t v name).run P w = .ok (f,v) w
theorem St {P:Program} {t:TypeId} {name:String} {f:FuncId} {info:TypeInfo} {m:Method} {d:TypeDesc} (aS:P.info? t=some info) (hm:info.methods.find? (·.name==name)=some m) (aF:m.path = #[])
  (aX:m.func=some (f,false)) (ay:P.underlying t=some d) (Su:∀ e,d ≠ .pointer e) (ye:∃ n,P.types.size+Made.depth=n+1):pU P t name f:=by
 intro v w;obtain ⟨n,aB⟩:=ye;rw [aB];unfold method;simp only [aa',typeInfo,run_program,i7,aS,ae3,hm,aF,follow,aX,receiverAt,run_underlying ay];cases d<;>first|exact absurd C (Su _)|rfl
theorem Sv {name:String} {cap args:Array Value}:Go.invoke (.fn (.method name) cap) args=(match args[0]? with
  | some recv=>callMethod recv name (args.extract 1 args.size)
  | none=>stuck "call: a method without a receiver"):=by
 cases h:args[0]? <;> simp [Go.invoke,h]
theorem a6.invoke {o:Oper} {g:Operand} {name:String} {as:Array Operand} {cZ:Array TypeId} {t:TypeId} {v:ah} {f:FuncId} {xs:List ah} {R:eB→ao→Prop}
  (ai:o.op = .call { callee := .invoke g name,args:=as,argTypes:=cZ }) (aq:aN env g=some (.iface t v)) (aO:fS env as.toList=some xs) (hm:pU P t name f) (h:hl P f (v::xs) s R) :
  a6 P N o env s (fun x ak=>R (.ret x) ak) (fun x ak=>R (.panic x) ak):=by
 refine ⟨by simp [gH,ai],fun ro B a w p aK=>?_⟩;have mA:=aK.aN aq;generalize Sw:a.eval g=aea at mA;cases mA with
 | iface _ val _ o5=>
 have cR:(execOp a.eval o).run P w = .ok (.enter f (#[val]++(as.map a.eval))) w:=by
  unfold execOp;rw [ai];have hex:(#[Value.iface t val]++as.map a.eval).extract 1 (#[Value.iface t val]++as.map a.eval).size=as.map a.eval:=by
   apply ap9;simp [av3,List.take_of_length_le]
  have bo:(#[Value.iface t val]++as.map a.eval)[0]? = some (Value.iface t val):=by
   rw [as' bc];rfl
  simp only [resolve,Sw,aa',ae3,i7];rw [Go.Proofs.YtnafpeohfbglmaaGreat.Sv,bo];simp only [hex,callMethod,aa',run_program,i7,hm val w];exact h.1 _ _
 rw [cR];have:=h.2 w p (val::as.toList.map a.eval) aK.wf (.cons _ _ _ _ o5 (CA aK aO));have e:(val::as.toList.map a.eval).toArray = #[val]++(as.map a.eval):=by apply ap9;simp
 rw [e] at this;refine this.mono ?_;rintro e w' ⟨out,ak,bh,aa,ad,aj,a8,bB⟩;refine ⟨ak,bh,aj,a8,bB,?_⟩;cases e<;>cases out<;>first|exact aa.elim|skip
 ·exact ⟨_,ad,aa⟩
 ·obtain ⟨v,FN,FO⟩:=aa;exact ⟨v,_,FN,ad,FO⟩
theorem a6.panic {o:Oper} {x:Operand} {t:TypeId} {v:ah} (ai:o.op = .panic x) (ab:aN env x=some (.iface t v)) {K:ah→ao→Prop}:a6 P N o env s K (fun u ak=>u = .iface t v∧ak=s):=by
 refine ⟨by simp [gH,ai],fun ro B a w p aK=>?_⟩;have aE:=aK.aN ab;generalize ar:a.eval x=dN at aE;cases aE with
 | iface _ val _ o5=>
 have cR:(execOp a.eval o).run P w = .halt (.panic (.iface t val)) w:=by
  unfold execOp;rw [ai];simp only [ar,Instr.panic,aa',run_goPanic,Result.andThen_halt]
 rw [cR];exact ⟨s,p,.refl w p,.refl s w p,aK.wf,_,_,x2.one _,⟨rfl,rfl⟩,.iface _ _ _ o5⟩
theorem Kp {sz:Nat}:∀ {vs:List Value} (_:∀ v∈vs,v.cells.size=sz) {j:Nat} {v:Value} (_:vs[j]? = some v) (k:Nat) {u:Value} (_:v.cells.toList[k]? = some u),(flat vs)[j*sz+k]? = some u:=by
 intro vs
 induction vs with
 | nil=>intro _ j v ar;simp at ar
 | cons x vs aW=>
  intro au j v ar k u hu;have ab:=au x (i6 ..);simp only [flat,aj5];cases j with
  | zero=>
   simp at ar;subst ar;rw [Nat.zero_mul,af6,af9 (t7.1 hu).1];exact hu
  | succ j=>
   have aC:x.cells.toList.length=sz:=by rw [ae5,ab]
   have:=aW (fun v ar=>au v (i0 _ ar)) (by simpa using ar) k hu;rw [ae' (by rw [aC,ak1];omega),aC];have he:(j+1)*sz+k-sz=j*sz+k:=by rw [ak1];omega
   rw [he];exact this
theorem a6.idx (aR:bR P Γ) {o:Oper} {t e:TypeId} {x y:Operand} {it aH:bQ} {xs:List ah} {own:bV} {k:IntKind} {i:Int} {j:Nat} {v:ah} {cs:List ah} (ai:o.op = .indexAddr t x y)
  (aM:Γ.get? t=some it) (bw:it.bL = .aG e) (bO:Γ.get? e=some aH) (ab:aN env x=some (.aG aH.size xs own)) (ax:aN env y=some (.int k i)) (eJ:i=(j:Int)) (aI:xs[j]? = some v)
  (aD:cellsOf v=some cs) {X:ah→ao→Prop}:a6 P N o env s (fun r ak=>r = .bA cs 0∧ak=s) X:=by
 refine a6.kA (by simp [gH,ai]) fun ro B a w p aK=>?_
 obtain ⟨info,d,aa,ad,aj,-⟩:=aR.parts aM;obtain ⟨jT,kB,cu,c2,fg,eG,-⟩:=aR.parts bO;have ay:d = .slice e:=by rw [bw] at aj;cases d<;>simp [en] at aj;rw [aj]
 subst ay;have aE:=aK.aN ab;have jb:=aK.aN ax;generalize eo:a.eval x=dN at aE;generalize fh:a.eval y=gb at jb;cases jb;subst eJ;have o6:j<xs.length:=(t7.1 aI).1;cases aE with
 | hY=>simp at aI
 | iA=>simp at aI
 | aG g off n cap _ vs _ _ aB aC b9 hk au hm aA Kq cz=>
 obtain ⟨u,hu,zO⟩:=hk.get aI;have nK:=qF zO aD;refine ⟨.pointer (some ⟨g,off+j*aH.size,none⟩),w,s,p,_,?_,.refl w p,.refl s w p,aK.wf,⟨rfl,rfl⟩,.bA g (off+j*aH.size) _ 0 u.cells.toList cs C ?_ nK⟩
 ·unfold execOp
  rw [ai];simp only [eo,fh];refine gW ?_;have az:(0:Int)≤(j:Int)∧(j:Int)<(n:Int):=by omega
  simp [Instr.indexAt,asIntOf,run_underlying ad,az.2,sizeOf,typeInfo,cu,eG,lr];intro a7;omega
 ·intro i fy kY
  have:=b9 (j*aH.size+i) fy (Kp au hu i kY);rw [← ao4] at this;exact this
end
def wq (Γ:cw) (o:Oper) (env:Env):Option ah:=
  match o.op with
  | .binOp .quo _ x (.const (.int k (.ofNat (n+1)))) _=>match aN env x with
    | some (.int k' a)=>if k'=k then some (.int k (k.wrap (a.tdiv (as7 (n+1))))) else none
    | _=>none
  | .binOp .rem _ x (.const (.int k (.ofNat (n+1)))) _=>match aN env x with
    | some (.int k' a)=>if k'=k then some (.int k (a.tmod (as7 (n+1)))) else none
    | _=>none
  | .convert s d x=>match Γ.get? s,Γ.get? d with
    | some ⟨.int _,_,_,_⟩,some ⟨.int k,_,_,_⟩=>match aN env x with
      | some (.int _ n)=>some (.int k (k.wrap n))
      | _=>none
    | _,_=>none
  | .call { callee := .builtin .max,args,argTypes:=_ }=>match args.toList with
    | [x,y]=>match aN env x,aN env y with
      | some (.int k a),some (.int _ b)=>some (.int k (if b>a then b else a))
      | _,_=>none
    | _=>none
  | .call { callee := .builtin .min,args,argTypes:=_ }=>match args.toList with
    | [x,y]=>match aN env x,aN env y with
      | some (.int k a),some (.int _ b)=>some (.int k (if b<a then b else a))
      | _,_=>none
    | _=>none
  | _=>none
section
variable {P:Program} {Γ:cw} (aR:bR P Γ) {N:Nat} {B:fQ} {ro:Option Nat} {env:Env} {s:ao} {a:Act} {w:World} {p:bU} (aK:dw N B ro env s a w p)
theorem uK {o:Oper} {op:BinOp} {t yt:TypeId} {x y:Operand} {v:Value} {r:ah} (ai:o.op = .binOp op t x y yt)
  (aa:(eqGuard op t x y (a.eval x) (a.eval y)).run P w = .ok () w) (ad:(binOp op t (a.eval x) (a.eval y)).run P w = .ok v w) (aE:Rel w p v r):gV P o a w p r:=by
 refine .same (val:=v) ?_ aE;unfold execOp;rw [ai];refine gW ?_;rw [aa',aa,i7,ad]
include aK
include aR
theorem Sx {o:Oper} {v:ah} (h:wq Γ o env=some v):gV P o a w p v:=by
 unfold wq at h;split at h
 ·rename_i t x k n yt ai
  split at h
  ·rename_i k' u ab
   split at h
   ·rename_i aA
    cases h;subst aA;have aa:=aK.aN ab;generalize ar:a.eval x=dN at aa;cases aa;refine uK (v := .int k' (k'.wrap (u.tdiv (as7 (n+1))))) ai ?_ ?_ (.int _ _)
    ·rfl
    ·rw [ar]
     have aB:¬ (as7 (n+1)=0):=by simp;omega
     simp only [Act.eval,binOp,Op.intDiv,ne_eq,not_true_eq_false,ah9,aB,ae3]
   ·cases h
  ·cases h
 ·rename_i t x k n yt ai
  split at h
  ·rename_i k' u ab
   split at h
   ·rename_i aA
    cases h;subst aA;have aa:=aK.aN ab;generalize ar:a.eval x=dN at aa;cases aa;refine uK (v := .int k' (u.tmod (as7 (n+1)))) ai ?_ ?_ (.int _ _)
    ·rfl
    ·rw [ar]
     have aB:¬ (as7 (n+1)=0):=by simp;omega
     simp only [Act.eval,binOp,Op.intDiv,ne_eq,not_true_eq_false,ah9,aB,ae3]
   ·cases h
  ·cases h
 ·rename_i jW d x ai
  split at h
  ·rename_i Kr df a2 a3 k gq dm mB au ay
   split at h
   ·rename_i cu n ab
    cases h;obtain ⟨info,d1,aa,ad,aj,-⟩:=aR.parts au;obtain ⟨m0,Ks,od,oe,v7,-⟩:=aR.parts ay;have b6:Ks = .int k:=by cases Ks<;>simp [en] at v7;rw [v7]
    have aE:=aK.aN ab;generalize ar:a.eval x=dN at aE;cases aE;refine .same (val := .int k (k.wrap n)) ?_ (.int _ _);unfold execOp;rw [ai];refine gW ?_;subst b6;rw [ar];cases d1<;>simp [en] at aj
    simp [convert,run_underlying ad,run_underlying oe,Conv.intToInt]
   ·cases h
  ·cases h
 ·rename_i args gu ai
  split at h
  ·rename_i x y aC
   have wu:args = #[x,y]:=by apply ap9;simpa using aC
   subst wu;split at h
   ·rename_i k u k' fy ab ax
    cases h;have aa:=aK.aN ab;have ad:=aK.aN ax;generalize eo:a.eval x=dN at aa;generalize fh:a.eval y=gb at ad;cases aa;cases ad;refine .same (val := .int k (if fy>u then fy else u)) ?_ (.int _ _);unfold execOp;rw [ai];simp only [resolve,invoke,builtin,aa',ae3,i7,ar4,ae0,ag7,eo,fh,run_max_int2]
   ·cases h
  ·cases h
 ·rename_i args gu ai
  split at h
  ·rename_i x y aC
   have wu:args = #[x,y]:=by apply ap9;simpa using aC
   subst wu;split at h
   ·rename_i k u k' fy ab ax
    cases h;have aa:=aK.aN ab;have ad:=aK.aN ax;generalize eo:a.eval x=dN at aa;generalize fh:a.eval y=gb at ad;cases aa;cases ad;refine .same (val := .int k (if fy<u then fy else u)) ?_ (.int _ _);unfold execOp;rw [ai];simp only [resolve,invoke,builtin,aa',ae3,i7,ar4,ae0,ag7,eo,fh,run_min_int2]
   ·cases h
  ·cases h
 ·cases h
omit aK aR in
theorem Sy {o:Oper} {v:ah} (h:wq Γ o env=some v):gH o=true:=by
 unfold gH;cases ai:o.op<;>first|rfl|(unfold wq at h;rw [ai] at h;cases h)
omit aR in
theorem Sz {o:Oper} {t yt:TypeId} {x y:Operand} {u v:List UInt8} (ai:o.op = .binOp .add t x y yt) (ab:aN env x=some (.str u)) (ax:aN env y=some (.str v)) (aC:u.length+v.length≤9223372036854775807) :
  gV P o a w p (.str (u++v)):=by
 have aa:=aK.aN ab;have ad:=aK.aN ax;generalize eo:a.eval x=dN at aa;generalize fh:a.eval y=gb at ad;cases aa with|str gq _ b6=>cases ad with|str dm _ bW=>
 refine uK (v := .string (gq++dm)) ai ?_ ?_ ?_
 ·exact rfl
 ·rw [eo,fh]
  have au:¬ ((gq.size+dm.size:Nat):Int)>IntKind.i64.max:=by
   have df:gq.size=u.length:=by rw [← b6];simp
   have a2:dm.size=v.length:=by rw [← bW];simp
   have:IntKind.i64.max=9223372036854775807:=by decide
   rw [df,a2,this];omega
  simp only [binOp,Op.stringOp,d7 au,ae3]
 ·exact .str _ _ (by rw [← b6,← bW];simp [ByteArray.data_append])
theorem SA {o:Oper} {t e:TypeId} {x y:Operand} {it aH:bQ} {sz:Nat} {xs:List ah} {own:bV} {k:IntKind} {i:Int} {j:Nat} {v:ah} {cs:List ah} (ai:o.op = .indexAddr t x y)
  (aM:Γ.get? t=some it) (bw:it.bL = .aG e) (bO:Γ.get? e=some aH) (ab:aN env x=some (.aG sz xs own)) (cc:sz=aH.size) (ax:aN env y=some (.int k i)) (eJ:i=(j:Int)) (aI:xs[j]? = some v)
  (aD:cellsOf v=some cs):gV P o a w p (.bA cs 0):=by
 subst cc;obtain ⟨info,d,aa,ad,aj,-⟩:=aR.parts aM;obtain ⟨jT,kB,cu,c2,fg,eG,-⟩:=aR.parts bO;have ay:d = .slice e:=by rw [bw] at aj;cases d<;>simp [en] at aj;rw [aj]
 subst ay;have aE:=aK.aN ab;have jb:=aK.aN ax;generalize eo:a.eval x=dN at aE;generalize fh:a.eval y=gb at jb;cases jb;subst eJ;have o6:j<xs.length:=(t7.1 aI).1;cases aE with
 | hY=>simp at aI
 | iA=>simp at aI
 | aG g off n cap _ vs _ _ aB aC b9 hk au hm aA Kq cz=>
 obtain ⟨u,hu,zO⟩:=hk.get aI;have nK:=qF zO aD;refine .same (val := .pointer (some ⟨g,off+j*aH.size,none⟩)) ?_ (.bA g (off+j*aH.size) _ 0 u.cells.toList cs C ?_ nK)
 ·unfold execOp
  rw [ai];simp only [eo,fh];refine gW ?_;have az:(0:Int)≤(j:Int)∧(j:Int)<(n:Int):=by omega
  simp [Instr.indexAt,asIntOf,run_underlying ad,az.2,sizeOf,typeInfo,cu,eG,lr];intro a7;omega
 ·intro i fy kY
  have:=b9 (j*aH.size+i) fy (Kp au hu i kY);rw [← ao4] at this;exact this
theorem SB {o:Oper} {t:TypeId} {x y:Operand} {it:bQ} {l:List UInt8} {k:IntKind} {i:Int} {j:Nat} {b:UInt8} (ai:o.op = .index t x y)
  (aM:Γ.get? t=some it) (bw:it.bL = .str) (ab:aN env x=some (.str l)) (ax:aN env y=some (.int k i)) (eJ:i=(j:Int)) (aI:l[j]? = some b) :
  gV P o a w p (.int .u8 b.toNat):=by
 obtain ⟨info,d,aa,ad,aj,-⟩:=aR.parts aM;have ay:d = .string:=by rw [bw] at aj;cases d<;>simp [en] at aj;rfl
 subst ay;have aE:=aK.aN ab;have jb:=aK.aN ax;generalize eo:a.eval x=dN at aE;generalize fh:a.eval y=gb at jb;cases jb;subst eJ;cases aE with
 | str m7 _ e=>
 have aq:m7[j]? = some b:=by
  rw [← e] at aI;have:m7.data[j]? = some b:=by simpa using aI
  exact this
 refine .same (val := .int .u8 b.toNat) ?_ (.int _ _);unfold execOp;rw [ai];simp only [eo,fh];refine gW ?_;simp [Instr.index,asIntOf,run_underlying ad,aq]
omit aK aR in
theorem SC {sz:Nat}:∀ {vs:List Value} (_:∀ v∈vs,v.cells.size=sz) (l:Nat) (i:Nat),l≤vs.length→(flat (vs.drop l))[i]? = (flat vs)[l*sz+i]?:=by
 intro vs
 induction vs with
 | nil=>
  intro _ l i aC;have:l=0:=by simpa using aC
  subst this;simp
 | cons v vs aW=>
  intro au l i aC;cases l with
  | zero=>simp
  | succ l=>
   have ar:=au v (i6 ..);rw [ao2,aW (fun v ar=>au v (i0 _ ar)) l i (by simpa using aC)];simp only [flat,aj5];rw [ae' (by rw [ae5,ar,ak1];omega),ae5,ar];congr 1;rw [ak1];omega
omit aK aR in
theorem SD {vs:List Value} (h:Nat) {i:Nat} {u:Value} (hu:(flat (vs.take h))[i]? = some u):(flat vs)[i]? = some u:=by
 have:flat vs=flat (vs.take h)++flat (vs.drop h):=by rw [← FK,List.take_append_drop]
 rw [this,af9 (t7.1 hu).1];exact hu
theorem SE {o:Oper} {t e:TypeId} {x:Operand} {fT aS jr:Option Operand} {it aH:bQ} {sz:Nat} {xs:List ah} {own dz:bV} {l h:Nat} (ai:o.op = .slice t x fT aS jr)
  (aM:Γ.get? t=some it) (bw:it.bL = .aG e) (bO:Γ.get? e=some aH) (ab:aN env x=some (.aG sz xs own)) (cc:xs=[]∨sz=aH.size)
  (hJ:(fT=none∧l=0)∨∃ y k,fT=some y∧aN env y=some (.int k (l:Int))) (qM:(aS=none∧jr=none∧h=xs.length)∨∃ y k,aS=some y∧aN env y=some (.int k (h:Int)))
  (nN:(jr=none∧dz = .bd)∨(∃ y k,jr=some y∧aN env y=some (.int k (h:Int))∧dz = .clip)) (aC:l≤h) (cN:h≤xs.length):gV P o a w p (.aG sz ((xs.take h).drop l) dz):=by
 obtain ⟨info,d,aa,ad,aj,-⟩:=aR.parts aM;obtain ⟨jT,kB,cu,c2,fg,eG,-⟩:=aR.parts bO;have ay:d = .slice e:=by rw [bw] at aj;cases d<;>simp [en] at aj;rw [aj]
 subst ay;have jc:∀ b,dz ≠ .own b:=by rcases nN with ⟨-,rfl⟩|⟨_,_,-,-,rfl⟩<;>simp
 have FQ:dz ≠ .nil:=by rcases nN with ⟨-,rfl⟩|⟨_,_,-,-,rfl⟩<;>simp
 have oj:∀ {y k} {n:Nat},aN env y=some (.int k (n:Int))→a.eval y = .int k (n:Int):=fun he=>by
  have:=aK.aN he;generalize a.eval _=v at this ⊢;cases this;rfl
 have SF:∀ (cap:Nat),xs.length≤cap→∃ m,(Instr.sliceBounds true xs.length cap (fT.map a.eval) (aS.map a.eval) (jr.map a.eval)).run P w = .ok (l,h,m) w∧h≤m∧m≤cap∧(dz = .clip→m=h):=by
  intro cap kD;have aB:∀ n:Nat,(0:Int)≤(n:Int):=fun n=>by omega
  have FR:(l:Int)≤(h:Int):=by omega
  have CP:(h:Int)≤(cap:Int):=by omega
  rcases nN with ⟨rfl,rfl⟩|⟨SG,aek,rfl,z1,rfl⟩
  ·rcases qM with ⟨rfl,-,rfl⟩|⟨SH,SI,rfl,z6⟩
   ·refine ⟨cap,?_,kD,g7 _,by simp⟩
    rcases hJ with ⟨rfl,rfl⟩|⟨Kt,nO,rfl,iq⟩
    ·simp [Instr.sliceBounds]
    ·simp [Instr.sliceBounds,oj iq,run_sliceBound,aB,FR]
   ·refine ⟨cap,?_,by omega,g7 _,by simp⟩
    rcases hJ with ⟨rfl,rfl⟩|⟨Kt,nO,rfl,iq⟩
    ·simp [Instr.sliceBounds,oj z6,run_sliceBound,aB,CP]
    ·simp [Instr.sliceBounds,oj z6,oj iq,run_sliceBound,aB,FR,CP]
  ·rcases qM with ⟨-,bo,-⟩|⟨SH,SI,rfl,z6⟩
   ·cases bo
   ·refine ⟨h,?_,g7 _,by omega,fun _=>rfl⟩
    rcases hJ with ⟨rfl,rfl⟩|⟨Kt,nO,rfl,iq⟩
    ·simp [Instr.sliceBounds,oj z6,oj z1,run_sliceBound,aB,CP]
    ·simp [Instr.sliceBounds,oj z6,oj iq,oj z1,run_sliceBound,aB,FR,CP]
 have eO:∀ base cap val,a.eval x = .slice base xs.length cap→xs.length≤cap→(∀ m,h≤m→m≤cap→(dz = .clip→m=h)→Rel w p (.slice (if m=l then base else base.map (·.add (l*aH.size))) (h-l) (m-l)) val)→gV P o a w p val:=by
  intro base cap val eo kD eS;obtain ⟨m,an,qN,mC,SJ⟩:=SF cap kD;refine .same ?_ (eS m qN mC SJ);unfold execOp;rw [ai];simp only [eo];refine gW ?_;simp only [Instr.sliceAt,Instr.slice,aa',run_underlying ad,i7,an,sizeOf,typeInfo,run_program,cu,ae3,eG]
 have aE:=aK.aN ab;generalize eo:a.eval x=dN at aE;cases aE with
 | hY _ _ _=>
  refine eO none 0 _ eo (g7 _) (fun m aa ad aj=>?_);have b6:h=0:=by simpa using cN
  have bW:l=0:=by omega
  have eN:m=0:=by omega
  subst b6;subst bW;subst eN;simp only [ag5,aC4,as9];exact .hY _ _ jc
 | iA a _ _ _=>
  refine eO (some a) 0 _ eo (g7 _) (fun m aa ad aj=>?_);have b6:h=0:=by simpa using cN
  have bW:l=0:=by omega
  have eN:m=0:=by omega
  subst b6;subst bW;subst eN;simp only [ag5,aC4,as9];refine .iA a _ _ ?_;cases dz with
  | bd=>exact .inl C
  | clip=>exact .inr C
  | nil=>exact absurd C FQ
  | own b=>exact absurd C (jc b)
 | aG g off n cap _ vs _ _ aB lV b9 hk au hm aA Kq cz=>
  subst lV;refine eO _ cap _ eo aA (fun m aa ad aj=>?_);have hlen:h-l=((xs.take h).drop l).length:=by simp;omega
  have fz:=hk.length;have SK:∃ CQ,(if m=l then (some ⟨g,off,none⟩:Option Addr) else (some ⟨g,off,none⟩:Option Addr).map (·.add (l*aH.size)))=some ⟨g,CQ,none⟩∧(m≠l→CQ=off+l*aH.size):=by
   by_cases e:m=l
   ·exact ⟨off,by simp [e],fun h=>absurd e h⟩
   ·exact ⟨off+l*aH.size,by simp [e,lr],fun _=>rfl⟩
  obtain ⟨CQ,SL,SM⟩:=SK;rw [SL];refine .aG g CQ _ _ sz ((vs.take h).drop l) _ dz FQ hlen ?_ ((hk.take h).drop l) (fun v ar=>au v (ar0 (List.mem_of_mem_drop ar))) ag ag (fun aD=>by have:=aj aD;omega) (fun b an=>absurd an (jc b));intro i u hu;by_cases e:m=l
  ·have:(vs.take h).drop l=[]:=by apply List.drop_eq_nil_of_le;rw [ae9];omega
   rw [this] at hu;simp [flat] at hu
  ·rw [SM e]
   have wm:∀ v∈vs.take h,v.cells.size=aH.size:=by
    rcases cc with rfl|rfl
    ·have:vs=[]:=ai9 (by rw [fz];rfl)
     subst this;simp
    ·exact fun v ar=>au v (ar0 ar)
   rw [SC wm l i vP] at hu;have:=b9 _ _ (SD h hu);rw [← ao4] at this;exact this
end
def om (l:List UInt8):List ah:=l.map fun b => .int .u8 b.toNat
theorem Ku (l:List UInt8):(om l).length=l.length:=by simp [om]
theorem Kv {w:World} {p:bU}:∀ (l:List UInt8),bH w p (l.map fun b=>Value.int .u8 b.toNat) (om l)
 | [] => .nil
 | b::l => .cons _ _ _ _ (.int _ _) (Kv l)
theorem Kw {w:World} {p:bU}:∀ {l:List UInt8} {vs:List Value},bH w p vs (om l)→vs=l.map fun b=>Value.int .u8 b.toNat
  | [],_,h=>by cases h;rfl
  | b::l,_,h=>by
    cases h with|cons v _ vs _ aa ad=>
    cases aa;rw [Kw ad];rfl
section
variable {P:Program} {Γ:cw} (aR:bR P Γ) {N:Nat} {B:fQ} {ro:Option Nat} {env:Env} {s:ao} {a:Act} {w:World} {p:bU} (aK:dw N B ro env s a w p)
include aK aR
omit aK aR in
theorem Kx:∀ (l:List UInt8),flat (l.map fun b=>Value.int .u8 b.toNat)=l.map fun b=>Value.int .u8 b.toNat:=by
 intro l
 induction l with
 | nil=>rfl
 | cons b l aW=>simp only [flat,ae0,aj5,Value.cells] at aW ⊢;rw [aW];rfl
theorem SN {o:Oper} {jW d e:TypeId} {x:Operand} {is id aH:bQ} {sz:Nat} {l:List UInt8} {own:bV} (ai:o.op = .convert jW d x) (au:Γ.get? jW=some is) (ay:Γ.get? d=some id) (jX:is.bL = .aG e) (nP:id.bL = .str)
  (he:Γ.get? e=some aH) (o7:aH.bL = .int .u8) (ab:aN env x=some (.aG sz (om l) own)):gV P o a w p (.str l):=by
 obtain ⟨i1,d1,df,a2,a3,-⟩:=aR.parts au;obtain ⟨i2,d2,gq,dm,mB,-⟩:=aR.parts ay;obtain ⟨i3,d3,cW,c6,eW,-⟩:=aR.parts he;have b6:d1 = .slice e:=by rw [jX] at a3;cases d1<;>simp [en] at a3;rw [a3]
 have bW:d2 = .string:=by rw [nP] at mB;cases d2<;>simp [en] at mB;rfl
 have eN:d3 = .int .u8:=by rw [o7] at eW;cases d3<;>simp [en] at eW;rw [eW]
 subst b6;subst bW;subst eN;have eO:∀ v,(convert jW d (a.eval x)).run P w = .ok v w→(execOp a.eval o).run P w = .ok (.value v) w:=fun v h=>by
  unfold execOp;rw [ai];exact gW h
 have aE:=aK.aN ab;generalize ar:a.eval x=dN at aE eO;generalize kT:om l=CR at aE;cases aE with
 | hY=>
  have aC:l=[]:=by cases l with|nil=>rfl|cons b l=>simp [om] at kT
  subst aC;refine .same (val := .string ByteArray.empty) (eO _ ?_) (.str _ _ C);rw [run_convert_bytes_string w jW d e none 0 0 a2 c6 dm];rfl
 | iA c1 _ _ _=>
  have aC:l=[]:=by cases l with|nil=>rfl|cons b l=>simp [om] at kT
  subst aC;exact .same (val := .string ⟨#[]⟩) (eO _ (run_convert_bytes_back w jW d e c1 0 [] a2 c6 dm (fun j aI=>by simp at aI))) (.str _ _ C)
 | aG g off n cap _ vs _ _ aB aC aD hk cc hm aA b9 cz=>
  subst kT;have eM:=Kw hk;subst eM;rw [Ku] at aC;subst aC;refine .same (val := .string ⟨l.toArray⟩) (eO _ ?_) (.str _ _ bc);refine run_convert_bytes_back w jW d e ⟨g,off,none⟩ cap l a2 c6 dm (fun j aI=>?_);rw [lr];refine (aD j _ ?_).2;rw [Kx];simp [List.getElem?_eq_getElem aI]
theorem SO {o:Oper} {jW d e:TypeId} {x:Operand} {is id aH:bQ} {l:List UInt8} (ai:o.op = .convert jW d x) (au:Γ.get? jW=some is) (ay:Γ.get? d=some id) (jX:is.bL = .str) (nP:id.bL = .aG e)
  (he:Γ.get? e=some aH) (o7:aH.bL = .int .u8) (ab:aN env x=some (.str l)) (FT:l.length≤9223372036854775807):gV P o a w p (.aG 1 (om l) .bd):=by
 obtain ⟨i1,d1,df,a2,a3,-⟩:=aR.parts au;obtain ⟨i2,d2,gq,dm,mB,-⟩:=aR.parts ay;obtain ⟨i3,d3,cW,c6,eW,-⟩:=aR.parts he;have b6:d1 = .string:=by rw [jX] at a3;cases d1<;>simp [en] at a3;rfl
 have bW:d2 = .slice e:=by rw [nP] at mB;cases d2<;>simp [en] at mB;rw [mB]
 have eN:d3 = .int .u8:=by rw [o7] at eW;cases d3<;>simp [en] at eW;rw [eW]
 subst b6;subst bW;subst eN;have aE:=aK.aN ab;generalize ar:a.eval x=dN at aE;cases aE with
 | str m7 _ oo=>
 have cc:m7.size=l.length:=by rw [← oo];simp
 have cR:=run_bytes_of_string (P:=P) w jW d e m7 a2 dm c6;generalize kD:grownCap w m7.size 0 e=cap at cR;have nM:m7.size≤cap:=by rw [← kD];simp [grownCap,Question.cut]
 have js:(bytesRow m7 cap).toList=(l.map fun b=>Value.int .u8 b.toNat)++H1 (cap-m7.size) (.int .u8 0):=by
  simp [bytesRow,← oo]
 generalize SP:Obj.cells (bytesRow m7 cap) e ((bytesRow m7 cap).size,(bytesRow m7 cap).size+1)=dA at cR;have hle:de w p (w.drew.alloc dA) (p.dX w.heap.size True):=de.trans kX (uB (w:=w.drew) (fun b o h=>aK.wf.lt b o h) dA True);refine ⟨.slice (some ⟨w.heap.size,0,none⟩) m7.size cap,_,_,?_,?_,hle,fun ak hK=>⟨?_,?_⟩⟩
 ·unfold execOp
  rw [ai];simp only [ar];exact gW cR
 ·refine .aG w.heap.size 0 _ cap 1 (l.map fun b=>Value.int .u8 b.toNat) (om l) .bd bc (by rw [Ku,cc]) ?_ (Kv l) (by simp [Value.cells]) ag nM bc bc
  rw [Kx];intro i v Ky;refine ⟨.inr ⟨rfl,trivial⟩,?_⟩;have cN:(w.drew.alloc dA).heap[w.heap.size]? = some dA:=uA w.drew dA;rw [← SP] at cN ⊢;simp only [World.cell?,cN,ap',af7,ah9,af6];have:(bytesRow m7 cap).toList[i]? = some v:=by
   rw [js,af9 (t7.1 Ky).1];exact Ky
  simpa using this
 ·exact Kept.trans (s₁:=ak) (w₁:=w.drew) (p₁:=p) (g7 _) vW (Ct (w:=w.drew) dA True)
 ·exact zG (w:=w.drew) (x7 hK) dA True
end
inductive lW (Γ:cw) (o:Oper) (env:Env):ah→Prop
 | a {v:ah} (h:pL Γ o env=some v):lW Γ o env v
 | x {v:ah} (h:wq Γ o env=some v):lW Γ o env v
 | cat {t yt:TypeId} {x y:Operand} {u v:List UInt8} (ai:o.op = .binOp .add t x y yt) (ab:aN env x=some (.str u)) (ax:aN env y=some (.str v)) (aC:u.length+v.length≤9223372036854775807):lW Γ o env (.str (u++v))
 | toStr {jW d e:TypeId} {x:Operand} {is id aH:bQ} {sz:Nat} {l:List UInt8} {own:bV} (ai:o.op = .convert jW d x) (au:Γ.get? jW=some is) (ay:Γ.get? d=some id) (jX:is.bL = .aG e) (nP:id.bL = .str)
   (he:Γ.get? e=some aH) (o7:aH.bL = .int .u8) (ab:aN env x=some (.aG sz (om l) own)):lW Γ o env (.str l)
 | CS {jW d e:TypeId} {x:Operand} {is id aH:bQ} {l:List UInt8} (ai:o.op = .convert jW d x) (au:Γ.get? jW=some is) (ay:Γ.get? d=some id) (jX:is.bL = .str) (nP:id.bL = .aG e)
   (he:Γ.get? e=some aH) (o7:aH.bL = .int .u8) (ab:aN env x=some (.str l)) (FT:l.length≤9223372036854775807):lW Γ o env (.aG 1 (om l) .bd)
 | idx {t e:TypeId} {x y:Operand} {it aH:bQ} {sz:Nat} {xs:List ah} {own:bV} {k:IntKind} {i:Int} (j:Nat) {v:ah} {cs:List ah} (ai:o.op = .indexAddr t x y)
   (aM:Γ.get? t=some it) (bw:it.bL = .aG e) (bO:Γ.get? e=some aH) (ab:aN env x=some (.aG sz xs own)) (cc:sz=aH.size) (ax:aN env y=some (.int k i)) (eJ:i=(j:Int)) (aI:xs[j]? = some v)
   (aD:cellsOf v=some cs):lW Γ o env (.bA cs 0)
 | z7 {t:TypeId} {x y:Operand} {it:bQ} {l:List UInt8} {k:IntKind} {i:Int} (j:Nat) {b:UInt8} (ai:o.op = .index t x y)
   (aM:Γ.get? t=some it) (bw:it.bL = .str) (ab:aN env x=some (.str l)) (ax:aN env y=some (.int k i)) (eJ:i=(j:Int)) (aI:l[j]? = some b):lW Γ o env (.int .u8 b.toNat)
 | slice {t e:TypeId} {x:Operand} {fT aS jr:Option Operand} {it aH:bQ} {sz:Nat} {xs:List ah} {own dz:bV} (l h:Nat) (ai:o.op = .slice t x fT aS jr)
   (aM:Γ.get? t=some it) (bw:it.bL = .aG e) (bO:Γ.get? e=some aH) (ab:aN env x=some (.aG sz xs own)) (cc:xs=[]∨sz=aH.size)
   (hJ:(fT=none∧l=0)∨∃ y k,fT=some y∧aN env y=some (.int k (l:Int))) (qM:(aS=none∧jr=none∧h=xs.length)∨∃ y k,aS=some y∧aN env y=some (.int k (h:Int)))
   (nN:(jr=none∧dz = .bd)∨(∃ y k,jr=some y∧aN env y=some (.int k (h:Int))∧dz = .clip)) (aC:l≤h) (cN:h≤xs.length):lW Γ o env (.aG sz ((xs.take h).drop l) dz)
theorem lW.ok {P:Program} {Γ:cw} (aR:bR P Γ) {N:Nat} {B:fQ} {ro:Option Nat} {env:Env} {s:ao} {a:Act} {w:World} {p:bU} (aK:dw N B ro env s a w p) {o:Oper} {v:ah} (h:lW Γ o env v):gV P o a w p v:=by
 cases h with
 | a h=>exact Kg aR aK h
 | x h=>exact Sx aR aK h
 | cat ai ab ax aC=>exact Sz aK ai ab ax aC
 | toStr ai au ay jX nP he o7 ab=>exact SN aR aK ai au ay jX nP he o7 ab
 | CS ai au ay jX nP he o7 ab aC=>exact SO aR aK ai au ay jX nP he o7 ab aC
 | idx j ai aM bw bO ab cc ax eJ aI aD=>exact SA aR aK ai aM bw bO ab cc ax eJ aI aD
 | z7 j ai aM bw ab ax eJ aI=>exact SB aR aK ai aM bw ab ax eJ aI
 | slice l h ai aM bw bO ab cc hJ qM nN aC cN=>exact SE aR aK ai aM bw bO ab cc hJ qM nN aC cN
theorem lW.gH {Γ:cw} {env:Env} {o:Oper} {v:ah} (h:lW Γ o env v):Go.Proofs.YtnafpeohfbglmaaGreat.gH o=true:=by
 cases h with
 | a h=>exact Kh h
 | x h=>exact Sy h
 | cat ai=>simp [Go.Proofs.YtnafpeohfbglmaaGreat.gH,ai]
 | toStr ai=>simp [Go.Proofs.YtnafpeohfbglmaaGreat.gH,ai]
 | CS ai=>simp [Go.Proofs.YtnafpeohfbglmaaGreat.gH,ai]
 | idx j ai=>simp [Go.Proofs.YtnafpeohfbglmaaGreat.gH,ai]
 | z7 j ai=>simp [Go.Proofs.YtnafpeohfbglmaaGreat.gH,ai]
 | slice l h ai=>simp [Go.Proofs.YtnafpeohfbglmaaGreat.gH,ai]
theorem a6.pure {P:Program} {Γ:cw} (aR:bR P Γ) {N:Nat} {env:Env} {s:ao} {o:Oper} {v:ah} (h:lW Γ o env v):a6 P N o env s (fun x ak=>x=v∧ak=s) (fun _ _=>False):=
 a6.nI h.gH fun _ _ _ _ _ aK=>h.ok aR aK
def r0:Nat→List ah→Env
 | _,[]=>[]
 | k,v::vs=>(k,v)::r0 (k+1) vs
def z8 (Γ:cw) (env:Env) (s:ao):ResultVar→Option ah
  | .tmp t=>env.get? t
  | .cell a t=>match env.get? a,Γ.get? t with
    | some (.ptr b o),some i=>match s b with
      | some (.box _ cs)=>hP i cs o
      | _=>none
    | some (.bA cs o),some i=>hP i cs o
    | _,_=>none
def wv (Γ:cw) (env:Env) (s:ao):List ResultVar→Option (List ah)
  | []=>some []
  | r::rs=>match z8 Γ env s r with
    | some v=>match wv Γ env s rs with
      | some vs=>some (v::vs)
      | none=>none
    | none=>none
def oq (Γ:cw) (env:Env) (s:ao) (rs:List ResultVar):Option ah:=
 match wv Γ env s rs with
 | some [v]=>some v
 | some vs=>some (.cr vs)
 | none=>none
section
variable {P:Program} {Γ:cw}
theorem SQ (aR:bR P Γ) {N:Nat} {B:fQ} {ro:Option Nat} {env:Env} {s:ao} {a:Act} {w w':World} {p:bU} (aK:dw N B ro env s a w p)
  (hw:∀ b o v,w.cell? ⟨b,o,none⟩=some v→w'.cell? ⟨b,o,none⟩=some v) (jo:∀ v x,Rel w p v x→Rel w' p v x) {r:ResultVar} {v:ah} (h:z8 Γ env s r=some v) :
  ∃ val,((match r with
   | .tmp t=>pure (a.tmps.getD t undef)
   | .cell b t=>do loadVar t (← asAddr (a.tmps.getD b undef))):Sem Value).run P w' = .ok val w'∧Rel w' p val v:=by
 cases r with
 | tmp t=>exact ⟨_,rfl,jo _ _ (aK.env t v h)⟩
 | cell b t=>
  simp only [z8] at h;split at h
  ·rename_i aY o i an aS
   split at h
   ·rename_i T cs au
    have aE:=aK.env b _ an;generalize ar:a.tmps.getD b undef=zX at aE;cases aE;obtain ⟨vs,aa,ad,aj⟩:=aK.wf.obj _ _ au;have hk:bH w' p vs.toList cs:=by
     have:∀ us xs,bH w p us xs→bH w' p us xs:=by
      intro us
      induction us with
      | nil=>intro xs h;cases h;exact .nil
      | cons u us aW=>intro xs h;cases h with|cons _ x _ xs ab aM=>exact .cons _ _ _ _ (jo _ _ ab) (aW _ aM)
     exact this _ _ ad
    obtain ⟨val,cR,eS⟩:=zL aR aS (b:=aY) (base:=0) (vs:=vs.toList) (w:=w') (fun j u hu=>by
     rw [af6];refine hw _ _ _ ?_;rw [jH aa];simpa using hu) hk h
    rw [af6] at cR;exact ⟨val,by simp only [ar,asAddr,aa',ae3,i7,cR],eS⟩
   ·cases h
  ·rename_i cs o i an aS
   have aE:=jo _ _ (aK.env b _ an);generalize ar:a.tmps.getD b undef=zX at aE;cases aE with
   | bA m7 base uE _ vs _ mw aD hk=>
   subst mw;obtain ⟨val,cR,eS⟩:=zL aR aS (b:=m7) (base:=base) (fun j u hu=>(aD j u hu).2) hk h;exact ⟨val,by simp only [ar,asAddr,aa',ae3,i7,cR],eS⟩
  ·cases h
theorem SR (aR:bR P Γ) {N:Nat} {B:fQ} {ro:Option Nat} {env:Env} {s:ao} {a:Act} {w w':World} {p:bU} (aK:dw N B ro env s a w p)
  (hw:∀ b o v,w.cell? ⟨b,o,none⟩=some v→w'.cell? ⟨b,o,none⟩=some v) (jo:∀ v x,Rel w p v x→Rel w' p v x):∀ {rs:List ResultVar} {xs:List ah} (_:wv Γ env s rs=some xs),
  ∃ lX,(rs.mapM fun r=>((match r with
   | .tmp t=>pure (a.tmps.getD t undef)
   | .cell b t=>do loadVar t (← asAddr (a.tmps.getD b undef))):Sem Value)).run P w' = .ok lX w'∧bH w' p lX xs:=by
 intro rs
 induction rs with
 | nil=>intro xs h;cases h;exact ⟨[],by simp,.nil⟩
 | cons r rs aW=>
  intro xs h;simp only [wv] at h;split at h
  ·rename_i v ar
   split at h
   ·rename_i vs eM
    cases h;obtain ⟨val,aa,ad⟩:=SQ aR aK hw jo ar;obtain ⟨lX,aj,a8⟩:=aW eM;exact ⟨val::lX,by simp only [ay5,aa',aa,i7,aj,ae3],.cons _ _ _ _ ad a8⟩
   ·cases h
  ·cases h
theorem SS (aR:bR P Γ) {N:Nat} {B:fQ} {ro:Option Nat} {env:Env} {s:ao} {a:Act} {w w':World} {p:bU} (aK:dw N B ro env s a w p)
  (hw:∀ b o v,w.cell? ⟨b,o,none⟩=some v→w'.cell? ⟨b,o,none⟩=some v) (jo:∀ v x,Rel w p v x→Rel w' p v x) {fn:Func} {v:ah} (h:oq Γ env s fn.results.toList=some v) :
  ∃ val,(results fn a.tmps).run P w' = .ok val w'∧Rel w' p val v:=by
 unfold oq at h;have key:∀ xs,wv Γ env s fn.results.toList=some xs→∃ lX,(results fn a.tmps).run P w' = .ok (if h:lX.length=1 then lX[0] else .tuple lX.toArray) w'∧bH w' p lX xs:=by
  intro xs d';obtain ⟨lX,aa,ad⟩:=SR aR aK hw jo d';refine ⟨lX,?_,ad⟩;unfold results;rw [Array.mapM_eq_mapM_toList];simp only [aa',Sem.run_map];erw [aa];simp only [i7,ae3];by_cases aC:lX.length=1
  ·simp [aC]
  ·simp [aC]
 split at h
 ·rename_i fy ar
  cases h;obtain ⟨lX,aa,ad⟩:=key _ ar;cases ad with
  | cons u _ us _ hu aM=>cases aM;exact ⟨u,by simpa using aa,hu⟩
 ·rename_i vs cP ar
  cases h;obtain ⟨lX,aa,ad⟩:=key _ ar;have aC:lX.length≠1:=by
   rw [ad.length];intro aC;obtain ⟨x,ab⟩:=List.length_eq_one_iff.1 aC;exact cP x ab
  rw [dif_neg aC] at aa;exact ⟨_,aa,.cr _ _ pJ⟩
 ·cases h
theorem FU {s:ao} {p:bU}:∀ (b':List Nat) (w:World),dq w p s→(∀ d∈b',∃ x,w.heap[d]? = some (.deferred x)) →
    de w p (hy w b') p∧dq (hy w b') p s∧(∀ b,b∉b'→(hy w b').heap[b]? = w.heap[b]?)∧(∀ b o v,w.cell? ⟨b,o,none⟩=some v→(hy w b').cell? ⟨b,o,none⟩=some v):=by
  intro b'
  induction b' with
  | nil=>intro w ca _;exact ⟨.refl w p,ca,fun _ _=>rfl,fun _ _ _ h=>h⟩
  | cons d b' aW=>
    intro w ca ay;obtain ⟨x,ab⟩:=ay d (i6 ..);have az:d<w.heap.size:=(t8.1 ab).1
    let w₁:World:={ w with heap:=w.heap.setIfInBounds d (.deferred none) }
    have o3:w₁.heap[d]? = some (.deferred none):=by simp [w₁,ag6,az]
    have h0:∀ k,k≠d→w₁.heap[k]? = w.heap[k]? := fun k aA=>by
      show (w.heap.setIfInBounds d (.deferred none))[k]? = _;rw [ag6,d7 (fun e=>aA e.symm)]
    have jF:∀ b o,w₁.cell? ⟨b,o,none⟩=w.cell? ⟨b,o,none⟩:=fun b o=>by
      by_cases e:b=d
      · subst e;simp only [World.cell?,o3,ab]
      · exact x6 (h0 b e)
    have hle:de w p w₁ p:=⟨rfl,rfl,rfl,by simp [w₁],fun _ _ h=>h,fun b o _=>jF b o,fun b y ax=>by
      by_cases e:b=d
      · subst e;simp [World.kU,ab] at ax
      · rw [x5 (h0 b e)];exact ax⟩
    have SU:dq w₁ p s:=by
      refine ⟨fun b o an=>?_,fun b o aF=>by simpa [w₁] using ca.lt b o aF⟩;have ai:=ca.obj b o an;have cP:b≠d:=by
        intro e;subst e;cases o with
        | box t c=>obtain ⟨us,g1,-⟩:=ai;rw [ab] at g1;cases g1
        | row t sz n=>obtain ⟨us,g1,-⟩:=ai;rw [ab] at g1;cases g1
        | map es=>obtain ⟨us,c,g1,-⟩:=ai;rw [ab] at g1;cases g1
        | lp es it l c=>obtain ⟨_,_,_,g1,-⟩:=ai;rw [ab] at g1;cases g1
        | tick m=>obtain ⟨_,_,_,g1⟩:=ai;rw [ab] at g1;cases g1
        | loop r env=>have cz:=ai.1;rw [ab] at cz;cases cz
      have cN:=h0 b cP;cases o with
      | box t c=>obtain ⟨us,g1,g2,g3⟩:=ai;exact ⟨us,cN.trans g1,g2.mono hle,g3⟩
      | row t sz n=>obtain ⟨cur,g1,g2,g3,g4⟩:=ai;exact ⟨cur,cN.trans g1,g2,g3,g4⟩
      | map es=>obtain ⟨cQ,c,g1,g2,g3⟩:=ai;exact ⟨cQ,c,cN.trans g1,⟨g2.1.mono hle,g2.2.mono hle⟩,g3⟩
      | lp es it l c=>exact ai.qD hle cN (h0 it (ai.zF ab bc))
      | tick m=>obtain ⟨df,a2,a3,g1⟩:=ai;exact ⟨df,a2,a3,cN.trans g1⟩
      | loop r env=>exact ⟨cN.trans ai.1,fun t v h=>(ai.2 t v h).mono hle⟩
    obtain ⟨i1,i2,i3,i4⟩:=aW w₁ SU (fun c4 cg=>by
      by_cases e:c4=d
      · subst e;exact ⟨none,o3⟩
      · obtain ⟨y,ax⟩:=ay c4 (i0 _ cg);exact ⟨y,(h0 c4 e).trans ax⟩)
    refine ⟨hle.trans i1,i2,fun b an=>?_,fun b o v ar=>i4 b o v ((jF b o).trans ar)⟩;have aa:b≠d:=fun e=>an (e ▸ i6 ..)
    have ad:b∉b':=fun e=>an (i0 _ e)
    exact (i3 b ad).trans (h0 b aa)
def Fin (Γ:cw) (rs:List ResultVar) (R:eB→ao→Prop):b3→Env→ao→Prop
 | .normal,env,s | .ret,env,s=>∃ r r' ak,oq Γ env s rs=some r∧aZ r r'∧ao.Sub ak s∧R (.ret r') ak
 | .panic v,_,s=>∃ fy ak,aZ v fy∧ao.Sub ak s∧R (.panic fy) ak
 | .exit _,_,_=>False
theorem SV {w:World} {p:bU}:∀ (k:Nat) (args:List ah) (vs pre:List Value),pre.length=k→bH w p vs args→∀ t v,(r0 k args).get? t=some v→∃ u,(pre++vs)[t]? = some u∧Rel w p u v:=by
 intro k args
 induction args generalizing k with
 | nil=>intro vs pre _ _ t v h;simp [r0,Env.get?] at h
 | cons x xs aW=>
  intro vs pre aA aE t v h;cases aE with
  | cons u _ us _ hu aM=>
  simp only [r0,Env.get?] at h;split at h
  ·rename_i he
   have:=ad' he;subst this;cases h;exact ⟨u,by rw [ae' ag];simp [aA],hu⟩
  ·obtain ⟨jY,aa,ad⟩:=aW (k+1) us (pre++[u]) (by simp [aA]) aM t v h
   exact ⟨jY,by simpa using aa,ad⟩
theorem Kept.sub {s ak eL:ao} {w w':World} {p bh:bU} (h:Kept s ak w p w' bh) (au:ao.Sub eL ak):Kept s eL w p w' bh :=
 ⟨h.heap,fun b an aB=>au.none (h.kV b an aB),h.lo⟩
theorem hl.yf (aR:bR P Γ) {f:FuncId} {fn:Func} {c:Code} {args:List ah} {s:ao} {R:eB→ao→Prop} (aD:tu P f) (aX:P.funcs[f]? = some fn) (an:fn.body=some c)
  (a1:ao6 args.length fn.ntmps=true) (h:af P fn.ntmps c (Fin Γ fn.results.toList R) (r0 0 args) s):hl P f args s R:=by
 refine ⟨aD,fun w p vs ca eM=>Rz aX an fun b oX eZ=>?_⟩;have hle:=ao5 a1;have aC:=eM.length;have cc:(vs.toArray++al4 (fn.ntmps-vs.toArray.size) undef).size=fn.ntmps:=by simp;omega
 have aK:dw fn.ntmps (w.heap.size,[]) b.roundOf (r0 0 args) s { tmps:=vs.toArray++al4 (fn.ntmps-vs.toArray.size) undef,defers:=[] } w p:=by
  refine ⟨cc,fun t v ar=>?_,ca,⟨[],rfl,by simp,by simp⟩,fun l aC=>(by rw [oX] at aC;cases aC),g7 _⟩;obtain ⟨u,hu,aE⟩:=SV 0 args vs [] rfl eM t v ar;simp only [f0] at hu;have az:=(t7.1 hu).1;have:(vs.toArray++al4 (fn.ntmps-vs.toArray.size) undef).getD t undef=u:=by
   rw [ag1,as' (by simpa using az)];simp [hu]
  rw [this];exact aE
 refine mq (h b (w.heap.size,[]) _ w p eZ aK) ?_;rintro e c1 w' ⟨x,eU,ak,bh,ab,bn,hR,z',aA⟩;obtain ⟨b',tv,ez,dk⟩:=hR.defs;rw [List.append_nil] at tv;obtain ⟨b6,bW,eN,m2⟩:=FU b' w' hR.wf (fun d ay=>⟨_,(dk d ay).2.1⟩);have bk:Kept s ak w p (hy w' b') bh:=⟨fun aY dU aB=>(eN aY (fun hm=>by have:=(dk aY hm).1;omega)).trans (aA.heap aY dU aB),aA.kV,aA.lo⟩;have bM:de w p (hy w' b') bh:=z'.trans b6;have fin:(∃ r r' eL,oq Γ eU ak fn.results.toList=some r∧aZ r r'∧ao.Sub eL ak∧R (.ret r') eL) →
   ∃ b',c1.defers=marksOf b'∧b'.Nodup∧(∀ d∈b',w'.heap[d]? = some (.deferred (some [])))∧∃ v,(results fn c1.tmps).run P (hy w' b') = .ok v (hy w' b')∧wo s w p R (.returned v) (hy w' b'):=by
  rintro ⟨r,r',eL,aE,yg,fR,dW⟩;obtain ⟨val,cR,eS⟩:=SS aR hR m2 (fun v x h=>h.mono b6) aE;exact ⟨b',tv,ez,fun d ay=>(dk d ay).2.1,val,cR,.ret r',eL,bh,yg _ _ _ eS,dW,bM,bk.sub fR,bW.sub fR⟩
 cases ab with
 | normal=>exact fin bn
 | ret=>exact fin bn
 | exit id=>exact bn.elim
 | panic v x dx kW ar=>
  obtain ⟨fy,eL,yg,fR,dW⟩:=bn;exact ⟨b',tv,ez,fun d ay=>(dk d ay).2.1,.panic fy,eL,bh,⟨v,kW,yg _ _ _ (ar.mono b6)⟩,dW,bM,bk.sub fR,bW.sub fR⟩
end
def ae (P:Program) (N:Nat) (ops:Array Oper) (l:List Oper) (Q:b3→Env→ao→Prop) (env:Env) (s:ao):Prop:=
 ∀ k,(∀ j x,l[j]? = some x→ops[k+j]? = some x)→fI P N ops (ay3 k l.length) Q env s
section
variable {P:Program} {Γ:cw} {N:Nat} {ops:Array Oper} {Q:b3→Env→ao→Prop} {env:Env} {s:ao} {l:List Oper} {o:Oper} {d:Nat}
theorem af.cH {id:Nat} {l:List Oper} (h:ae P N l.toArray l Q env s):af P N (.region id l.toArray false) Q env s:=by
 refine af.region ?_;have:=h 0 bc;rw [List.range_eq_range'];simpa using this
theorem ae.nil (h:Q .normal env s):ae P N ops [] Q env s:=fun _ _=>fI.nil h
theorem ae.cons (h:∀ k,ops[k]? = some o→ae P N ops l Q env s∨True→(∀ j x,l[j]? = some x→ops[k+1+j]? = some x)→fI P N ops (k::ay3 (k+1) l.length) Q env s):ae P N ops (o::l) Q env s:=by
 intro k aA;have bo:ops[k]? = some o:=aA 0 o C;have aM:∀ j x,l[j]? = some x→ops[k+1+j]? = some x:=fun j x ab=>by have:=aA (j+1) x uv;simpa [ao4,ar3 1 j] using this
 rw [i5,ax4];exact h k bo (.inr trivial) aM
theorem ae.op {K X:ah→ao→Prop} (aq:guardOf ops env o=some true) (ay:o.dst=some d) (a1:z2 d N=true) (h:a6 P N o env s K X)
  (aA:∀ x ak,K x ak→ae P N ops l Q ((d,x)::env) ak) (ab:∀ x ak,X x ak→Q (.panic x) env ak):ae P N ops (o::l) Q env s:=
 ae.cons fun k bo _ aM=>fI.op bo aq ay a1 h (fun x ak bk=>aA x ak bk (k+1) aM) ab
theorem ae.vV {K X:ah→ao→Prop} (aq:guardOf ops env o=some true) (ay:o.dst=none) (h:a6 P N o env s K X)
  (aA:∀ x ak,K x ak→ae P N ops l Q env ak) (ab:∀ x ak,X x ak→Q (.panic x) env ak):ae P N ops (o::l) Q env s:=
 ae.cons fun k bo _ aM=>fI.vV bo aq ay h (fun x ak bk=>aA x ak bk (k+1) aM) ab
theorem ae.skip (aq:guardOf ops env o=some false) (ay:o.dst=some d) (a1:z2 d N=true) (h:ae P N ops l Q ((d,.cr [])::env) s):ae P N ops (o::l) Q env s:=
 ae.cons fun k bo _ aM=>fI.skip bo aq ay a1 (h (k+1) aM)
theorem ae.step (aR:bR P Γ) {v:ah} (aq:guardOf ops env o=some true) (ay:o.dst=some d) (a1:z2 d N=true) (ar:pL Γ o env=some v) (h:ae P N ops l Q ((d,v)::env) s) :
  ae P N ops (o::l) Q env s:=
 ae.op aq ay a1 (a6.pL aR ar) (fun x ak ⟨aa,ad⟩=>by subst aa;subst ad;exact h) (fun _ _ h=>h.elim)
theorem ae.pure (aR:bR P Γ) {v:ah} (aq:guardOf ops env o=some true) (ay:o.dst=some d) (a1:z2 d N=true) (ar:lW Γ o env v) (h:ae P N ops l Q ((d,v)::env) s) :
  ae P N ops (o::l) Q env s:=
 ae.op aq ay a1 (a6.pure aR ar) (fun x ak ⟨aa,ad⟩=>by subst aa;subst ad;exact h) (fun _ _ h=>h.elim)
theorem ae.iE (aR:bR P Γ) {v:ah} (aq:guardOf ops env o=some true) (ay:o.dst=some d) (a1:z2 d N=true) (ar:wq Γ o env=some v) (h:ae P N ops l Q ((d,v)::env) s) :
  ae P N ops (o::l) Q env s:=ae.pure aR aq ay a1 (.x ar) h
theorem ae.call {f:FuncId} {as:Array Operand} {cZ:Array TypeId} {xs:List ah} {R:eB→ao→Prop} (aq:guardOf ops env o=some true) (ay:o.dst=some d) (a1:z2 d N=true)
  (b1:o.op = .call { callee := .value (.func f),args:=as,argTypes:=cZ }) (aO:fS env as.toList=some xs) (h:hl P f xs s R)
  (aA:∀ x ak,R (.ret x) ak→ae P N ops l Q ((d,x)::env) ak) (ab:∀ x ak,R (.panic x) ak→Q (.panic x) env ak):ae P N ops (o::l) Q env s:=
 ae.op aq ay a1 (a6.call b1 (fv := .func f [] []) C aO (hT.fm hx)) aA ab
theorem ae.Kz {f:FuncId} {as:Array Operand} {cZ:Array TypeId} {xs:List ah} {v:ah} (aq:guardOf ops env o=some true) (ay:o.dst=some d) (a1:z2 d N=true)
  (b1:o.op = .call { callee := .value (.func f),args:=as,argTypes:=cZ }) (aO:fS env as.toList=some xs) (h:hl P f xs s (fun out ak=>out = .ret v∧ak=s))
  (aA:ae P N ops l Q ((d,v)::env) s):ae P N ops (o::l) Q env s:=
 ae.call aq ay a1 b1 aO h (fun x ak ⟨aa,ad⟩=>by cases aa;subst ad;exact aA) (fun x ak ⟨aa,_⟩=>by cases aa)
theorem ae.FP {g:Operand} {fv:ah} {as:Array Operand} {cZ:Array TypeId} {xs:List ah} {R:eB→ao→Prop} (aq:guardOf ops env o=some true) (ay:o.dst=some d) (a1:z2 d N=true)
  (b1:o.op = .call { callee := .value g,args:=as,argTypes:=cZ }) (ar:aN env g=some fv) (aO:fS env as.toList=some xs) (h:hT P fv xs s R)
  (aA:∀ x ak,R (.ret x) ak→ae P N ops l Q ((d,x)::env) ak) (ab:∀ x ak,R (.panic x) ak→Q (.panic x) env ak):ae P N ops (o::l) Q env s:=
 ae.op aq ay a1 (a6.call b1 ar aO h) aA ab
theorem ae.idx (aR:bR P Γ) {t e:TypeId} {x y:Operand} {it aH:bQ} {sz:Nat} {xs:List ah} {own:bV} {k:IntKind} {i:Int} {v:ah} {cs:List ah} (j:Nat) (aq:guardOf ops env o=some true) (ay:o.dst=some d)
  (a1:z2 d N=true) (ai:o.op = .indexAddr t x y) (aM:Γ.get? t=some it) (bw:it.bL = .aG e) (bO:Γ.get? e=some aH) (ab:aN env x=some (.aG sz xs own)) (cc:sz=aH.size) (ax:aN env y=some (.int k i))
  (eJ:i=(j:Int)) (aI:xs[j]? = some v) (aD:cellsOf v=some cs) (h:ae P N ops l Q ((d,.bA cs 0)::env) s):ae P N ops (o::l) Q env s:=
 ae.pure aR aq ay a1 (.idx j ai aM bw bO ab cc ax eJ aI aD) h
theorem ae.z7 (aR:bR P Γ) {t:TypeId} {x y:Operand} {it:bQ} {cs:List UInt8} {k:IntKind} {i:Int} {b:UInt8} (j:Nat) (aq:guardOf ops env o=some true) (ay:o.dst=some d)
  (a1:z2 d N=true) (ai:o.op = .index t x y) (aM:Γ.get? t=some it) (bw:it.bL = .str) (ab:aN env x=some (.str cs)) (ax:aN env y=some (.int k i))
  (eJ:i=(j:Int)) (aI:cs[j]? = some b) (h:ae P N ops l Q ((d,.int .u8 b.toNat)::env) s):ae P N ops (o::l) Q env s:=
 ae.pure aR aq ay a1 (.z7 j ai aM bw ab ax eJ aI) h
theorem ae.cat (aR:bR P Γ) {t yt:TypeId} {x y:Operand} {u v:List UInt8} (aq:guardOf ops env o=some true) (ay:o.dst=some d) (a1:z2 d N=true) (ai:o.op = .binOp .add t x y yt)
  (ab:aN env x=some (.str u)) (ax:aN env y=some (.str v)) (aC:u.length+v.length≤9223372036854775807) (h:ae P N ops l Q ((d,.str (u++v))::env) s):ae P N ops (o::l) Q env s:=
 ae.pure aR aq ay a1 (.cat ai ab ax aC) h
theorem ae.toStr (aR:bR P Γ) {jW Aa e:TypeId} {x:Operand} {is id aH:bQ} {sz:Nat} {u:List UInt8} {own:bV} (aq:guardOf ops env o=some true) (ay:o.dst=some d) (a1:z2 d N=true) (ai:o.op = .convert jW Aa x)
  (au:Γ.get? jW=some is) (FV:Γ.get? Aa=some id) (jX:is.bL = .aG e) (nP:id.bL = .str) (he:Γ.get? e=some aH) (o7:aH.bL = .int .u8) (ab:aN env x=some (.aG sz (om u) own))
  (h:ae P N ops l Q ((d,.str u)::env) s):ae P N ops (o::l) Q env s:=ae.pure aR aq ay a1 (.toStr ai au FV jX nP he o7 ab) h
theorem ae.CS (aR:bR P Γ) {jW Aa e:TypeId} {x:Operand} {is id aH:bQ} {u:List UInt8} (aq:guardOf ops env o=some true) (ay:o.dst=some d) (a1:z2 d N=true) (ai:o.op = .convert jW Aa x)
  (au:Γ.get? jW=some is) (FV:Γ.get? Aa=some id) (jX:is.bL = .str) (nP:id.bL = .aG e) (he:Γ.get? e=some aH) (o7:aH.bL = .int .u8) (ab:aN env x=some (.str u)) (FT:u.length≤9223372036854775807)
  (h:ae P N ops l Q ((d,.aG 1 (om u) .bd)::env) s):ae P N ops (o::l) Q env s:=ae.pure aR aq ay a1 (.CS ai au FV jX nP he o7 ab FT) h
theorem ae.slice (aR:bR P Γ) {t e:TypeId} {x:Operand} {fT aS jr:Option Operand} {it aH:bQ} {sz:Nat} {xs:List ah} {own dz:bV} (a b:Nat) (aq:guardOf ops env o=some true) (ay:o.dst=some d)
  (a1:z2 d N=true) (ai:o.op = .slice t x fT aS jr)
  (aM:Γ.get? t=some it) (bw:it.bL = .aG e) (bO:Γ.get? e=some aH) (ab:aN env x=some (.aG sz xs own)) (cc:xs=[]∨sz=aH.size)
  (hJ:(fT=none∧a=0)∨∃ y k,fT=some y∧aN env y=some (.int k (a:Int))) (qM:(aS=none∧jr=none∧b=xs.length)∨∃ y k,aS=some y∧aN env y=some (.int k (b:Int)))
  (nN:(jr=none∧dz = .bd)∨(∃ y k,jr=some y∧aN env y=some (.int k (b:Int))∧dz = .clip)) (aC:a≤b) (cN:b≤xs.length) (h:ae P N ops l Q ((d,.aG sz ((xs.take b).drop a) dz)::env) s):ae P N ops (o::l) Q env s:=
 ae.pure aR aq ay a1 (.slice a b ai aM bw bO ab cc hJ qM nN aC cN) h
theorem ae.freeze (t b:Nat) {T:TypeId} {cs:List ah} (aM:env.get? t=some (.ptr b 0)) (au:s b=some (.box T cs)) (h:ae P N ops l Q ((t,.bA cs 0)::env) (s.del b)):ae P N ops l Q env s:=
 fun k aA=>fI.freeze t b aM au (h k aA)
theorem b0 {next:Env→ao→Prop} (h:next env s):b3.andThen next Q .normal env s:=h
end
def qO (ops:Array Oper) (i j:Nat):Prop:=∃ o e,ops[i]? = some o∧e∈o.after∧Region.binds .any e=true∧e.on=j
inductive lv (ops:Array Oper):Nat→Nat→Prop
 | dep {i j:Nat} (h:qO ops i j):lv ops i j
 | trans {i j k:Nat} (h:qO ops i j) (t:lv ops j k):lv ops i k
def wx (ops:Array Oper) (D:Nat→Bool):Prop:=∀ i j,D i=true→qO ops i j→D j=true
theorem wx.qP {ops:Array Oper} {D:Nat→Bool} (h:wx ops D) {i j:Nat} (aS:D i=true) (aO:lv ops i j):D j=true:=by
 induction aO with
 | dep ay=>exact h _ _ aS ay
 | trans ay _ aW=>exact aW (h _ _ aS ay)
def dX (D:Nat→Bool) (i:Nat):Nat→Bool:=fun j=>if j=i then true else D j
theorem m8 (D:Nat→Bool) (i:Nat):dX D i i=true:=by simp [dX]
theorem jZ (D:Nat→Bool) {i j:Nat} (h:j≠i):dX D i j=D j:=by simp [dX,h]
theorem wy {D:Nat→Bool} {i j:Nat} (h:D j=true):dX D i j=true:=by unfold dX;split<;>simp_all
def hn (ops:Array Oper) (D:Nat→Bool) (i:Nat):Prop:=i<ops.size∧D i=false∧∀ j,qO ops i j→D j=true
theorem wx.dX {ops:Array Oper} {D:Nat→Bool} (h:wx ops D) {i:Nat} (aE:hn ops D i):wx ops (dX D i):=by
 intro a b aO ay;by_cases e:a=i
 ·subst e;exact wy (aE.2.2 b ay)
 ·rw [jZ _ e] at aO;exact wy (h a b aO ay)
def looks (ops:Array Oper) (o:Oper):List Tmp:=
  (match o.guard with
   | some (g,_)=>match (ops[g]?).bind (·.dst) with
     | some d=>[d]
     | none=>[]
   | none=>[])++o.op.operands.toList.filterMap fun | .tmp t=>some t|_=>none
def iF (env:Env):List Tmp→Env
  | []=>[]
  | t::gu=>match env.get? t with
    | some v=>(t,v)::iF env gu
    | none=>iF env gu
abbrev b2 (l:List Oper) (env:Env) (o:Oper):Env:=iF env (looks l.toArray o)
abbrev c8 (l:List Oper) (env:Env) (o:Oper):Prop:=guardOf l.toArray (iF env (looks l.toArray o)) o=some true
theorem KA {env:Env} {gu:List Tmp} {t:Tmp} {v:ah} (h:(iF env gu).get? t=some v):env.get? t=some v∧t∈gu:=by
 induction gu with
 | nil=>simp [iF,Env.get?] at h
 | cons u gu aW=>
  simp only [iF] at h;split at h
  ·rename_i x ab
   simp only [Env.get?] at h;split at h
   ·rename_i he
    have:=ad' he;subst this;cases h;exact ⟨ab,i6 ..⟩
   ·exact ⟨(aW h).1,i0 _ (aW h).2⟩
  ·exact ⟨(aW h).1,i0 _ (aW h).2⟩
def Still (J:ao→Prop) (P:Program) (Γ:cw) (N:Nat) (ops:Array Oper) (o:Oper) (E:Env) (v:ah):Prop:=
 (guardOf ops E o=some true∧lW Γ o E v)∨(guardOf ops E o=some false∧v = .cr []) ∨
  (guardOf ops E o=some true∧∀ s,J s→a6 P N o E s (fun x ak=>x=v∧ak=s) (fun _ _=>False))
structure uL (ops:Array Oper):Prop where
 uniq:∀ (i j:Nat) (x y:Oper) (d:Tmp),ops[i]? = some x→ops[j]? = some y→x.dst=some d→y.dst=some d→i=j
 apart:∀ (i j:Nat) (x y:Oper) (d:Tmp),i≠j→ops[i]? = some x→ops[j]? = some y→x.dst=some d→d∈looks ops y→lv ops i j∨lv ops j i
 back:∀ i j,qO ops i j→j<i
 own:∀ (i:Nat) (x:Oper) (d:Tmp),ops[i]? = some x→x.dst=some d→d∉looks ops x
inductive o8 (P:Program) (Γ:cw) (N:Nat) (ops:Array Oper) (Q:b3→Env→ao→Prop):(ao→Prop)→(Nat→Bool)→Env→ao→Prop
 | congr {J:ao→Prop} {D:Nat→Bool} {env:Env} {s:ao} (e:Env) (he:∀ t,e.get? t=env.get? t) (h:o8 P Γ N ops Q J D e s):o8 P Γ N ops Q J D env s
 | fin {J:ao→Prop} {D:Nat→Bool} {env:Env} {s:ao} (dk:∀ i,i<ops.size→D i=true) (h:Q .normal env s):o8 P Γ N ops Q J D env s
 | still {J:ao→Prop} {D:Nat→Bool} {env:Env} {s:ao} (c9:J s) (i:Nat) (o:Oper) (d:Tmp) (v:ah) (aE:hn ops D i) (ai:ops[i]? = some o) (ay:o.dst=some d) (a1:d<N)
   (ar:Still J P Γ N ops o (iF env (looks ops o)) v) (h:o8 P Γ N ops Q J (dX D i) ((d,v)::env) s):o8 P Γ N ops Q J D env s
 | split {J:ao→Prop} {D:Nat→Bool} {env:Env} {s:ao} (K X:Nat→ah→ao→Prop) (wz:Nat→ah→ao→ao→Prop) (cP:∃ i,i<ops.size∧D i=false)
   (aq:∀ i o,hn ops D i→ops[i]? = some o→guardOf ops (iF env (looks ops o)) o=some true∧a6 P N o (iF env (looks ops o)) s (K i) (X i)∧∀ d,o.dst=some d→d<N)
   (aI:∀ i o,hn ops D i→ops[i]? = some o→∀ x ak,K i x ak→(wz i x ak=J∧J ak)∨∀ j,j<ops.size→D j=true→j≠i→lv ops i j)
   (aA:∀ i o d,hn ops D i→ops[i]? = some o→o.dst=some d→∀ x ak,K i x ak→o8 P Γ N ops Q (wz i x ak) (dX D i) ((d,x)::env) ak)
   (lx:∀ i o,hn ops D i→ops[i]? = some o→o.dst=none→∀ x ak,K i x ak→o8 P Γ N ops Q (wz i x ak) (dX D i) env ak)
   (ab:∀ i o,hn ops D i→ops[i]? = some o→∀ x ak,X i x ak→Q (.panic x) [] ak):o8 P Γ N ops Q J D env s
abbrev bq (J:ao→Prop) (P:Program) (Γ:cw) (N:Nat) (ops:Array Oper) (Q:b3→Env→ao→Prop) (D:Nat→Bool) (env:Env) (s:ao):Prop:=o8 P Γ N ops Q J D env s
section
variable {J:ao→Prop} {P:Program} {Γ:cw} {N:Nat} {ops:Array Oper} {Q:b3→Env→ao→Prop} {D:Nat→Bool} {env:Env} {s:ao}
theorem bq.congr (e:Env) (he:∀ t,e.get? t=env.get? t) (h:bq J P Γ N ops Q D e s):bq J P Γ N ops Q D env s:=o8.congr e he h
theorem bq.fin (dk:∀ i,i<ops.size→D i=true) (h:Q .normal env s):bq J P Γ N ops Q D env s:=o8.fin dk h
theorem bq.still (c9:J s) (i:Nat) (o:Oper) (d:Tmp) (v:ah) (aE:hn ops D i) (ai:ops[i]? = some o) (ay:o.dst=some d) (a1:d<N)
  (ar:Still J P Γ N ops o (iF env (looks ops o)) v) (h:bq J P Γ N ops Q (dX D i) ((d,v)::env) s):bq J P Γ N ops Q D env s:=o8.still c9 i o d v aE ai ay a1 ar h
theorem bq.split (K X:Nat→ah→ao→Prop) (cP:∃ i,i<ops.size∧D i=false)
  (aq:∀ i o,hn ops D i→ops[i]? = some o→guardOf ops (iF env (looks ops o)) o=some true∧a6 P N o (iF env (looks ops o)) s (K i) (X i)∧∀ d,o.dst=some d→d<N)
  (aI:∀ i o,hn ops D i→ops[i]? = some o→∀ x ak,K i x ak→J ak∨∀ j,j<ops.size→j≠i→lv ops i j)
  (aA:∀ i o d,hn ops D i→ops[i]? = some o→o.dst=some d→∀ x ak,K i x ak→bq J P Γ N ops Q (dX D i) ((d,x)::env) ak)
  (lx:∀ i o,hn ops D i→ops[i]? = some o→o.dst=none→∀ x ak,K i x ak→bq J P Γ N ops Q (dX D i) env ak)
  (ab:∀ i o,hn ops D i→ops[i]? = some o→∀ x ak,X i x ak→Q (.panic x) [] ak):bq J P Γ N ops Q D env s:=
 o8.split K X (fun _ _ _=>J) cP aq (fun i o aa ad x ak aj=>(aI i o aa ad x ak aj).imp (fun h=>⟨rfl,h⟩) (fun h j a8 _ bB=>h j a8 bB)) aA lx ab
end
def nQ:ao→Prop:=fun _=>True
abbrev bf (P:Program) (Γ:cw) (N:Nat) (ops:Array Oper) (Q:b3→Env→ao→Prop) (D:Nat→Bool) (env:Env) (s:ao):Prop:=bq nQ P Γ N ops Q D env s
structure k0 (J:ao→Prop) (P:Program) (Γ:cw) (N:Nat) (B:fQ) (ro:Option Nat) (ops:Array Oper) (D L:Nat→Bool) (V:Nat→ah) (E:Nat→Env) (env:Env) (s:ao) (a:Act) (w:World) (p:bU):Prop where
 sub:∀ i,L i=true→D i=true
 r1:wx ops D
 qQ:wx ops L
 st:dw N B ro [] s a w p
 known:∀ t v,env.get? t=some v→(∃ k o,D k=true∧L k=false∧ops[k]? = some o∧o.dst=some t)∨Rel w p (a.tmps.getD t undef) v
 wA:∀ i o,D i=true→L i=false→ops[i]? = some o→∃ d,o.dst=some d∧d<N∧env.get? d=some (V i)∧Still J P Γ N ops o (E i) (V i) ∧
  (∀ t x,(E i).get? t=some x→t∈looks ops o∧(∀ k u,ops[k]? = some u→u.dst=some t→lv ops i k→L k=false→x=V k) ∧
   ((∀ k u,ops[k]? = some u→u.dst=some t→lv ops i k→L k=true)→Rel w p (a.tmps.getD t undef) x))
 bound:∀ i,D i=true→i<ops.size
 inv:(∀ i,D i=true→L i=true)∨J s
theorem dw.restrict {N:Nat} {B:fQ} {ro:Option Nat} {env:Env} {s:ao} {a:Act} {w:World} {p:bU} (h:dw N B ro env s a w p) (e:Env) (he:∀ t v,e.get? t=some v→Rel w p (a.tmps.getD t undef) v) :
  dw N B ro e s a w p:=⟨h.size,he,h.wf,h.defs,h.round,h.base⟩
section
variable {J:ao→Prop} {P:Program} {Γ:cw} {N:Nat} {ops:Array Oper} {Q:b3→Env→ao→Prop}
theorem k0.ahead (dB:uL ops) {B:fQ} {ro:Option Nat} {D L:Nat→Bool} {V:Nat→ah} {E:Nat→Env} {env:Env} {s:ao} {a:Act} {w:World} {p:bU}
  (h:k0 J P Γ N B ro ops D L V E env s a w p) {i:Nat} {o:Oper} {d:Tmp} {v:ah} (aE:hn ops D i) (ai:ops[i]? = some o) (ay:o.dst=some d) (a1:d<N)
  (c9:J s) (ar:Still J P Γ N ops o (iF env (looks ops o)) v) :
  k0 J P Γ N B ro ops (dX D i) L (fun j=>if j=i then v else V j) (fun j=>if j=i then iF env (looks ops o) else E j) ((d,v)::env) s a w p:=by
 have SW:L i=false:=by
  cases aC:L i with
  | false=>rfl
  | true=>have:=h.sub i aC;rw [aE.2.1] at this;cases this
 refine ⟨fun j aI=>wy (h.sub j aI),h.r1.dX aE,h.qQ,h.st,fun t x ab=>?_,fun j u aI m9 hu=>?_,fun j aI=>?_,.inr c9⟩
 ·simp only [Env.get?] at ab
  split at ab
  ·rename_i he
   have:=ad' he;subst this;exact .inl ⟨i,o,m8 _ _,SW,ai,ay⟩
  ·rcases h.known t x ab with ⟨k,u,aa,ad,aj,a8⟩|eS
   ·exact .inl ⟨k,u,wy aa,ad,aj,a8⟩
   ·exact .inr eS
 ·by_cases e:j=i
  ·subst e
   rw [ai] at hu;cases hu;refine ⟨d,ay,a1,by simp [Env.get?],?_,?_⟩
   ·simpa using ar
   ·intro t x ab
    simp only [ag5] at ab;obtain ⟨jt,qR⟩:=KA ab;refine ⟨qR,fun k u aA ly ib o9=>?_,fun fJ=>?_⟩
    ·have cP:k≠j:=fun e'=>by
      subst e';rw [ai] at aA;cases aA;rw [ay] at ly;cases ly;exact dB.own _ _ _ ai ay qR
     rw [d7 cP];have SX:D k=true:=by
      have:=(h.r1.dX aE).qP (m8 D j) ib;rwa [jZ _ cP] at this
     obtain ⟨c4,b6,bW,eN,-⟩:=h.wA k u SX o9 aA;rw [ly] at b6;cases b6;rw [jt] at eN;cases eN;rfl
    ·rcases h.known t x jt with ⟨k,u,aa,ad,aj,a8⟩|eS
     ·have cP:k≠j:=fun e'=>by subst e';rw [aE.2.1] at aa;cases aa
      rcases dB.apart k j u o t cP aj ai a8 qR with ib|ib
      ·have:=h.r1.qP aa ib;rw [aE.2.1] at this;cases this
      ·have:=fJ k u aj a8 ib;rw [ad] at this;cases this
     ·exact eS
  ·rw [jZ _ e] at aI
   obtain ⟨c4,b6,bW,eN,m2,qS⟩:=h.wA j u aI m9 hu;have nP:d≠c4:=fun e'=>by subst e';exact e (dB.uniq j i u o d hu ai b6 ay)
   refine ⟨c4,b6,bW,?_,?_,?_⟩
   ·simp only [Env.get?,d7 e]
    have:af2 d c4=false:=by
     cases an:af2 d c4 with
     | false=>rfl
     | true=>exact absurd (ad' an) nP
    simp [this,eN]
   ·simpa [e] using m2
   ·intro t x ab
    simp only [d7 e] at ab;obtain ⟨f1,f2,f3⟩:=qS t x ab;refine ⟨f1,fun k jY aA ly ib o9=>?_,f3⟩;have cP:k≠i:=fun e'=>by
     subst e';have:=h.r1.qP aI ib;rw [aE.2.1] at this;cases this
    rw [d7 cP];exact f2 k jY aA ly ib o9
 ·by_cases e:j=i
  ·subst e;exact aE.1
  ·rw [jZ _ e] at aI;exact h.bound j aI
theorem k0.SY (dB:uL ops) {B:fQ} {ro:Option Nat} {D L:Nat→Bool} {V:Nat→ah} {E:Nat→Env} {env:Env} {s:ao} {a:Act} {w w':World} {p bh:bU}
  (h:k0 J P Γ N B ro ops D L V E env s a w p) {i:Nat} {o:Oper} {d:Tmp} {val:Value} (aE:hn ops L i) (dk:D i=true) (ai:ops[i]? = some o) (ay:o.dst=some d)
  (hle:de w p w' bh) (aA:Kept s s w p w' bh) (ca:dq w' bh s) (o5:Rel w' bh val (V i)):k0 J P Γ N B ro ops D (dX L i) V E env s (a.put (some d) val) w' bh:=by
 obtain ⟨c4,cg,nG,CT,KB,e0⟩:=h.wA i o dk aE.2.1 ai;rw [ay] at cg;cases cg;have hR:=h.st.step hle aA ca;have Ab:=hR.put nG o5;have iC:∀ t,t≠d→(a.put (some d) val).tmps.getD t undef=a.tmps.getD t undef:=fun t aM=>by
  simp only [Act.put,ag1,ag6,d7 (fun e:d=t=>aM e.symm)]
 have CU:(a.put (some d) val).tmps.getD d undef=val:=by
  have:d<a.tmps.size:=by rw [h.st.size];exact nG
  simp [Act.put,ag1,ag6,this]
 refine ⟨fun j aI=>?_,h.r1,h.qQ.dX aE,Ab.restrict [] (by simp [Env.get?]),fun t x ab=>?_,fun j u aI m9 hu=>?_,h.bound,h.inv.imp (fun q j aI=>wy (q j aI)) id⟩
 ·by_cases e:j=i
  ·subst e;exact dk
  ·rw [jZ _ e] at aI;exact h.sub j aI
 ·by_cases e:t=d
  ·subst e
   rw [CT] at ab;cases ab;exact .inr (by rw [CU];exact o5)
  ·rcases h.known t x ab with ⟨k,u,aa,ad,aj,a8⟩|eS
   ·have cP:k≠i:=fun e'=>by subst e';rw [ai] at aj;cases aj;rw [ay] at a8;cases a8;exact e C
    exact .inl ⟨k,u,aa,by rw [jZ _ cP];exact ad,aj,a8⟩
   ·exact .inr (by rw [iC t e];exact eS.mono hle)
 ·have cP:j≠i:=fun e=>by subst e;rw [m8] at m9;cases m9
  rw [jZ _ cP] at m9;obtain ⟨c4,b6,bW,eN,m2,qS⟩:=h.wA j u aI m9 hu;refine ⟨c4,b6,bW,eN,m2,fun t x ab=>?_⟩;obtain ⟨f1,f2,f3⟩:=qS t x ab;refine ⟨f1,fun k jY eF ly ib o9=>?_,fun fJ=>?_⟩
  ·have tw:k≠i:=fun e=>by subst e;rw [m8] at o9;cases o9
   rw [jZ _ tw] at o9;exact f2 k jY eF ly ib o9
  ·by_cases e:t=d
   ·subst e
    rcases dB.apart i j o u t (Ne.symm cP) ai hu ay f1 with ib|ib
    ·have:=h.qQ.dX aE |>.qP (m8 L i) ib
     rw [jZ _ cP] at this;rw [m9] at this;cases this
    ·have:=f2 i o ai ay ib aE.2.1
     subst this;rw [CU];exact o5
   ·rw [iC t e]
    refine (f3 fun k jY eF ly ib=>?_).mono hle;have tw:k≠i:=fun e'=>by subst e';rw [ai] at eF;cases eF;rw [ay] at ly;cases ly;exact e C
    have:=fJ k jY eF ly ib;rwa [jZ _ tw] at this
theorem k0.ready (dB:uL ops) {B:fQ} {ro:Option Nat} {D L:Nat→Bool} {V:Nat→ah} {E:Nat→Env} {env:Env} {s:ao} {a:Act} {w:World} {p:bU}
  (h:k0 J P Γ N B ro ops D L V E env s a w p) {i:Nat} {o:Oper} (aE:hn ops L i) (dk:D i=false) (ai:ops[i]? = some o) :
  hn ops D i∧dw N B ro (iF env (looks ops o)) s a w p:=by
 refine ⟨⟨aE.1,dk,fun j aI=>h.sub j (aE.2.2 j aI)⟩,h.st.restrict _ fun t v ar=>?_⟩;obtain ⟨aa,ad⟩:=KA ar;rcases h.known t v aa with ⟨k,u,g1,g2,g3,g4⟩|eS
 ·have cP:k≠i:=fun e=>by subst e;rw [dk] at g1;cases g1
  rcases dB.apart k i u o t cP g3 ai g4 ad with ib|ib
  ·have:=h.r1.qP g1 ib;rw [dk] at this;cases this
  ·have:=(h.qQ.dX aE).qP (m8 L i) ib
   rw [jZ _ cP,g2] at this;cases this
 ·exact eS
theorem k0.both (dB:uL ops) {B:fQ} {ro:Option Nat} {D L:Nat→Bool} {V:Nat→ah} {E:Nat→Env} {env:Env} {s ak:ao} {a:Act} {w w':World} {p bh:bU}
  (h:k0 J P Γ N B ro ops D L V E env s a w p) {i:Nat} {o:Oper} {val:Value} {x:ah} (aE:hn ops L i) (pV:hn ops D i) (ai:ops[i]? = some o) (nG:∀ d,o.dst=some d→d<N)
  (hle:de w p w' bh) (aA:Kept s ak w p w' bh) (ca:dq w' bh ak) (o5:Rel w' bh val x) (c9:J ak∨∀ j,j<ops.size→D j=true→j≠i→lv ops i j) :
  k0 J P Γ N B ro ops (dX D i) (dX L i) V E (match o.dst with|some d=>(d,x)::env|none=>env) ak (a.put o.dst val) w' bh:=by
 have hR:=h.st.step hle aA ca;have iC:∀ t,o.dst≠some t→(a.put o.dst val).tmps.getD t undef=a.tmps.getD t undef:=fun t aM=>by
  cases ay:o.dst with
  | none=>rfl
  | some d=>
   have:d≠t:=fun e=>aM (by rw [ay,e])
   simp only [Act.put,ag1,ag6,d7 this]
 have CU:∀ d,o.dst=some d→(a.put o.dst val).tmps.getD d undef=val:=fun d ay=>by
  have:d<a.tmps.size:=by rw [h.st.size];exact nG d ay
  simp [ay,Act.put,ag1,ag6,this]
 have Ab:dw N B ro [] ak (a.put o.dst val) w' bh:=by
  cases ay:o.dst with
  | none=>exact hR
  | some d=>exact (hR.put (nG d ay) o5).restrict [] (by simp [Env.get?])
 refine ⟨fun j aI=>?_,h.r1.dX pV,h.qQ.dX aE,Ab,fun t y ax=>?_,fun j u aI m9 hu=>?_,fun j aI=>?_,c9.symm.imp (fun q j aI=>?_) id⟩
 ·by_cases e:j=i
  ·subst e;exact m8 _ _
  ·rw [jZ _ e] at aI;exact wy (h.sub j aI)
 ·by_cases e:o.dst=some t
  ·simp only [e,Env.get?,at7,ag5] at ax
   cases ax;exact .inr (by rw [CU t e];exact o5)
  ·have dc:env.get? t=some y:=by
    cases ay:o.dst with
    | none=>rw [ay] at ax;exact ax
    | some d=>
     rw [ay] at ax e;simp only [Env.get?] at ax;have:af2 d t=false:=by
      cases an:af2 d t with
      | false=>rfl
      | true=>exact absurd (ae6 some (ad' an)) e
     rw [this] at ax;simpa using ax
   rcases h.known t y dc with ⟨k,u,aa,ad,aj,a8⟩|eS
   ·have cP:k≠i:=fun e'=>by subst e';rw [ai] at aj;cases aj;exact e a8
    exact .inl ⟨k,u,wy aa,by rw [jZ _ cP];exact ad,aj,a8⟩
   ·exact .inr (by rw [iC t e];exact eS.mono hle)
 ·have cP:j≠i:=fun e=>by subst e;rw [m8] at m9;cases m9
  rw [jZ _ cP] at m9 aI;obtain ⟨c4,b6,bW,eN,m2,qS⟩:=h.wA j u aI m9 hu;have r2:o.dst≠some c4:=fun e=>cP (dB.uniq j i u o c4 hu ai b6 e)
  refine ⟨c4,b6,bW,?_,m2,fun t y ax=>?_⟩
  ·cases ay:o.dst with
   | none=>exact eN
   | some d=>
    simp only [Env.get?];have:af2 d c4=false:=by
     cases an:af2 d c4 with
     | false=>rfl
     | true=>exact absurd (by rw [ay,ad' an]) r2
    rw [this];simpa using eN
  ·obtain ⟨f1,f2,f3⟩:=qS t y ax
   have KC:o.dst≠some t:=fun e=>by
    rcases dB.apart i j o u t (Ne.symm cP) ai hu e f1 with ib|ib
    ·have:=(h.qQ.dX aE).qP (m8 L i) ib
     rw [jZ _ cP,m9] at this;cases this
    ·have:=h.r1.qP aI ib;rw [pV.2.1] at this;cases this
   refine ⟨f1,fun k jY eF ly ib o9=>?_,fun fJ=>?_⟩
   ·have tw:k≠i:=fun e=>by subst e;rw [m8] at o9;cases o9
    rw [jZ _ tw] at o9;exact f2 k jY eF ly ib o9
   ·rw [iC t KC]
    refine (f3 fun k jY eF ly ib=>?_).mono hle;have tw:k≠i:=fun e'=>by subst e';rw [ai] at eF;cases eF;exact KC ly
    have:=fJ k jY eF ly ib;rwa [jZ _ tw] at this
 ·by_cases e:j=i
  ·subst e;exact aE.1
  ·rw [jZ _ e] at aI;exact h.bound j aI
 ·by_cases e:j=i
  ·subst e;exact m8 _ _
  ·rw [jZ _ e] at aI
   exact (h.qQ.dX aE).qP (m8 L i) (q j (h.bound j aI) aI e)
theorem k0.SZ (dB:uL ops) {B:fQ} {ro:Option Nat} {D L:Nat→Bool} {V:Nat→ah} {E:Nat→Env} {env:Env} {s ak:ao} {a:Act} {w w':World} {p bh:bU} {wz:ao→Prop}
  (h:k0 J P Γ N B ro ops D L V E env s a w p) {i:Nat} {o:Oper} {val:Value} {x:ah} (aE:hn ops L i) (pV:hn ops D i) (ai:ops[i]? = some o) (nG:∀ d,o.dst=some d→d<N)
  (hle:de w p w' bh) (aA:Kept s ak w p w' bh) (ca:dq w' bh ak) (o5:Rel w' bh val x) (c9:(wz=J∧J ak)∨∀ j,j<ops.size→D j=true→j≠i→lv ops i j) :
  k0 wz P Γ N B ro ops (dX D i) (dX L i) V E (match o.dst with|some d=>(d,x)::env|none=>env) ak (a.put o.dst val) w' bh:=by
 rcases c9 with ⟨rfl,c9⟩|fJ
 ·exact h.both dB aE pV ai nG hle aA ca o5 (.inl c9)
 ·have eY:=h.both dB aE pV ai nG hle aA ca o5 (.inr fJ)
  have left:∀ j,dX D i j=true→dX L i j=true:=fun j aI=>by
   by_cases e:j=i
   ·subst e;exact m8 _ _
   ·rw [jZ _ e] at aI
    exact (h.qQ.dX aE).qP (m8 L i) (fJ j (h.bound j aI) aI e)
  exact ⟨eY.sub,eY.r1,eY.qQ,eY.st,eY.known,fun j u aI m9 _=>(by rw [left j aI] at m9;cases m9),eY.bound,.inl left⟩
def jI (listed:Array Bool) (n:Nat):Nat→Bool:=fun i=>decide (i<n)&&listed.getD i true
theorem mem_ready {listed:Array Bool} (yh:∀ i j,qO ops i j→j<i) {i:Nat} (h:i∈Region.ready .any ops listed):hn ops (jI listed ops.size) i:=by
 unfold Region.ready at h;simp only [ag3,aj2,f4,ai3] at h;obtain ⟨az,aC,fJ⟩:=h;refine ⟨az,by simp only [jI,aC,Bool.and_false],fun j ⟨o,e,ai,he,an,aI⟩=>?_⟩;have acJ:j<i:=yh i j ⟨o,e,ai,he,an,aI⟩;rw [ai] at fJ;simp only [al',ae4,aA3] at fJ;have:=fJ e he;simp only [an,aj',ah2] at this;rw [aI] at this;have te:j<ops.size:=by omega
 simp only [jI,te,decide_true,f5];rw [ag1] at this ⊢;cases ab:listed[j]? with
 | none=>rfl
 | some b=>rw [ab] at this;simpa using this
theorem KD {listed:Array Bool} (yh:∀ i j,qO ops i j→j<i) (aB:Region.ready .any ops listed=[]) (cc:listed.size=ops.size):∀ i,i<ops.size→jI listed ops.size i=true:=by
 intro i
 induction i using av0 with
 | _ i aW=>
  intro aS;cases aC:listed.getD i true with
  | true=>simp [jI,aS,aC]
  | false=>
   have fs:i∈Region.ready .any ops listed:=by
    unfold Region.ready;simp only [ag3,aj2,f4,ai3];refine ⟨aS,aC,?_⟩;have ai:ops[i]? = some ops[i]:=by simp
    rw [ai];simp only [al',ae4,aA3];intro e he;cases an:Region.binds .any e with
    | false=>rfl
    | true=>
     simp only [aj',ah2];have az:=yh i e.on ⟨_,e,ai,he,an,rfl⟩;have:=aW e.on az ag;have cT:e.on<listed.size:=by omega
     simp only [jI,f4] at this;rw [ag1] at this ⊢;have S0:listed[e.on]? = some listed[e.on]:=by simp [cT]
     rw [S0] at this ⊢;simpa using this.2
   rw [aB] at fs;cases fs
theorem FW {listed:Array Bool} {i:Nat} (aS:i<ops.size) (cc:listed.size=ops.size):jI (listed.setIfInBounds i true) ops.size=dX (jI listed ops.size) i:=by
 funext j;unfold jI dX;by_cases e:j=i
 ·subst e;simp [aS,cc]
 ·have e':¬ i=j:=fun h=>e h.symm
  simp only [d7 e,ag1,ag6,d7 e']
theorem S1 (aR:bR P Γ) {B:fQ} {ro:Option Nat} {E:Env} {s:ao} {a:Act} {w:World} {p:bU} {o:Oper} {d:Tmp} {v:ah} (ay:o.dst=some d) (aK:dw N B ro E s a w p) (c9:J s) (h:Still J P Γ N ops o E v) {R:Ending→World→Prop} {S:Act→World→Prop}
  (I:∀ val w' bh,Rel w' bh val v→de w p w' bh→Kept s s w p w' bh→dq w' bh s→S (a.put (some d) val) w') :
  (if Region.wanted o (yielded ops a.tmps)=true then gH o=true∧pK P ((execOp a.eval o).run P w) (fun e w'=>match e with
   | .returned v=>S (a.put o.dst v) w'
   | .panicked dx=>R (.panicked dx) w'
   | .outgrown=>False) else S (a.put o.dst undef) w):=by
 rcases h with ⟨aq,ar⟩|⟨aq,rfl⟩|⟨aq,ar⟩
 ·rw [f7 (vT aK aq)]
  refine ⟨ar.gH,?_⟩;obtain ⟨val,w',bh,cR,aE,hle,aA⟩:=ar.ok aR aK;rw [cR];obtain ⟨ky,hQ⟩:=aA s aK.wf;rw [ay];exact I val w' bh aE hle ky hQ
 ·rw [d7 (by rw [vT aK aq];simp),ay]
  exact I undef w p Fo (.refl w p) (.refl s w p) aK.wf
 ·rw [f7 (vT aK aq)]
  refine ⟨(ar s c9).1,((ar s c9).2 ro B a w p aK).mono ?_⟩;rintro e w' ⟨ak,bh,hle,aA,ca,he⟩;cases e with
  | returned val=>
   obtain ⟨x,⟨rfl,rfl⟩,aE⟩:=he;rw [ay];exact I val w' bh aE hle aA ca
  | panicked dx=>obtain ⟨v,x,-,aX,-⟩:=he;exact aX.elim
  | outgrown=>exact he
end
section
variable {J:ao→Prop} {P:Program} {Γ:cw} {N:Nat} {ops:Array Oper} {Q:b3→Env→ao→Prop}
def r3 (listed:Array Bool) (n:Nat):Nat:=(ah8 n).countP fun i => !jI listed n i
theorem KE {listed:Array Bool} {i:Nat} (aS:i<ops.size) (cc:listed.size=ops.size) (aC:jI listed ops.size i=false) :
  r3 (listed.setIfInBounds i true) ops.size+1=r3 listed ops.size:=by
 unfold r3;rw [FW aS cc];have key:∀ l:List Nat,l.Nodup→i∈l→l.countP (fun j => !dX (jI listed ops.size) i j)+1=l.countP (fun j => !jI listed ops.size j):=by
  intro l
  induction l with
  | nil=>intro _ h;cases h
  | cons x l aW=>
   intro aB hm;have gL:=ar9.1 aB;simp only [List.countP_cons];by_cases e:x=i
   ·subst e
    have:l.countP (fun j => !dX (jI listed ops.size) x j)=l.countP (fun j => !jI listed ops.size j):=by
     apply List.countP_congr;intro y ax;have cP:y≠x:=fun e=>gL.1 (e ▸ ax)
     rw [jZ _ cP]
    rw [this,m8,aC];simp
   ·have CV:i∈l:=by rcases ae8.1 hm with h|h;exact absurd h.symm e;exact h
    have:=aW gL.2 CV;rw [jZ _ e];omega
 exact key _ List.nodup_range (aj2.2 aS)
theorem KF {listed:Array Bool} (h:r3 listed ops.size=0):∀ i,i<ops.size→jI listed ops.size i=true:=by
 intro i aS;unfold r3 at h;rw [List.countP_eq_zero] at h;have:=h i (aj2.2 aS);simpa using this
theorem KG {Q:hg→Act→World→Prop} {i:Nat} {rest:List Nat} {o:Oper} (ai:ops[i]? = some o) (a:Act) (w:World) :
  iZ P ops Q (i::rest) a w=(if Region.wanted o (yielded ops a.tmps)=true then gH o=true∧pK P ((execOp a.eval o).run P w) (fun e w'=>match e with
   | .returned v=>iZ P ops Q rest (a.put o.dst v) w'
   | .panicked dx=>Q (.panic dx) a w'
   | .outgrown=>False) else iZ P ops Q rest (a.put o.dst undef) w):=by
 simp only [iZ,ai];split
 ·exact propext ⟨fun h=>⟨h.1,h.2.mono fun e w' h=>by cases e<;>exact h⟩,fun h=>⟨h.1,h.2.mono fun e w' h=>by cases e<;>exact h⟩⟩
 ·rfl
theorem KH (fuel t:Nat) (listed:Array Bool) :
  (Region.ready .any ops listed=[]∧Region.linearise.go .any ops (fuel+1) t listed []=[]) ∨
  ∃ i∈Region.ready .any ops listed,∃ bP,Region.linearise.go .any ops (fuel+1) t listed []=i::Region.linearise.go .any ops fuel bP (listed.setIfInBounds i true) []:=by
 simp only [Region.linearise.go]
 change (Region.ready .any ops listed=[]∧(match (Region.ready .any ops listed)[t % (Region.ready .any ops listed).length]? with
   | some i=>Region.linearise.go .any ops fuel (t / (Region.ready .any ops listed).length) (listed.setIfInBounds i true) [i]
   | none=>[].reverse)=[])∨∃ i∈Region.ready .any ops listed,∃ bP,(match (Region.ready .any ops listed)[t % (Region.ready .any ops listed).length]? with
   | some i=>Region.linearise.go .any ops fuel (t / (Region.ready .any ops listed).length) (listed.setIfInBounds i true) [i]
   | none=>[].reverse)=i::Region.linearise.go .any ops fuel bP (listed.setIfInBounds i true) []
 cases aS:(Region.ready .any ops listed)[t % (Region.ready .any ops listed).length]? with
 | none=>
  have S2:Region.ready .any ops listed=[]:=by
   cases aE:Region.ready .any ops listed with
   | nil=>rfl
   | cons x xs=>
    rw [aE] at aS;have az:t % (x::xs).length<(x::xs).length:=Nat.mod_lt _ bc;simp at aS;simp at az;omega
  exact .inl ⟨S2,rfl⟩
 | some i=>
  refine .inr ⟨i,List.mem_of_getElem? aS,t / (Region.ready .any ops listed).length,?_⟩;simp only [];rw [linearise_go_acc];rfl
theorem k0.post {B:fQ} {ro:Option Nat} {D L:Nat→Bool} {V:Nat→ah} {E:Nat→Env} {env:Env} {s:ao} {a:Act} {w:World} {p:bU}
  (h:k0 J P Γ N B ro ops D L V E env s a w p) (bM:∀ i,i<ops.size→L i=true):dw N B ro env s a w p:=
 h.st.restrict _ fun t v ar=>by
  rcases h.known t v ar with ⟨k,u,aa,ad,aj,-⟩|eS
  ·have:=bM k (h.bound k aa);rw [ad] at this;cases this
  ·exact eS
theorem bq.sound (aR:bR P Γ) (dB:uL ops) {D:Nat→Bool} {env:Env} {s:ao} (h:bq J P Γ N ops Q D env s):∀ (fuel t:Nat) (listed:Array Bool) (B:fQ) (ro:Option Nat) (V:Nat→ah) (E:Nat→Env) (a:Act) (w:World) (p:bU),
  listed.size=ops.size→r3 listed ops.size≤fuel→k0 J P Γ N B ro ops D (jI listed ops.size) V E env s a w p →
  iZ P ops (kx N B ro s w p Q) (Region.linearise.go .any ops fuel t listed []) a w:=by
 have pending:∀ {J:ao→Prop} {D:Nat→Bool} {env:Env} {s:ao} (fuel:Nat),
   (∀ (t:Nat) (listed:Array Bool) (B:fQ) (ro:Option Nat) (V:Nat→ah) (E:Nat→Env) (a:Act) (w:World) (p:bU),listed.size=ops.size→r3 listed ops.size≤fuel →
    k0 J P Γ N B ro ops D (jI listed ops.size) V E env s a w p→iZ P ops (kx N B ro s w p Q) (Region.linearise.go .any ops fuel t listed []) a w) →
   ∀ (bP:Nat) (listed:Array Bool) (B:fQ) (ro:Option Nat) (V:Nat→ah) (E:Nat→Env) (a:Act) (w:World) (p:bU) (i:Nat),listed.size=ops.size→r3 listed ops.size≤fuel+1 →
    k0 J P Γ N B ro ops D (jI listed ops.size) V E env s a w p→i∈Region.ready .any ops listed→D i=true →
    iZ P ops (kx N B ro s w p Q) (i::Region.linearise.go .any ops fuel bP (listed.setIfInBounds i true) []) a w:=by
  intro J D env s fuel aW bP listed B ro V E a w p i cc r4 h2 aS dk;have aE:=mem_ready dB.back aS;obtain ⟨o,ai⟩:∃ o,ops[i]? = some o:=⟨_,at5 aE.1⟩;obtain ⟨d,ay,nG,CT,KB,e0⟩:=h2.wA i _ dk aE.2.1 ai;have aK:dw N B ro (E i) s a w p:=h2.st.restrict _ fun t v ar=>by
   obtain ⟨-,-,f3⟩:=e0 t v ar;exact f3 fun k u aA ly ib=>by
    have:=(h2.qQ.dX aE).qP (m8 (jI listed ops.size) i) ib;have cP:k≠i:=fun e=>by
     subst e;rw [ai] at aA;cases aA;rw [ay] at ly;cases ly;exact dB.own _ _ _ ai ay (e0 _ _ ar).1
    rwa [jZ _ cP] at this
  rw [KG ai];have c9:J s:=h2.inv.elim (fun q=>by have:=q i dk;rw [aE.2.1] at this;cases this) id;refine S1 aR ay aK c9 KB (R:=fun e w'=>match e with | .panicked dx=>kx N B ro s w p Q (.panic dx) a w'|_=>False) ?_;intro val w' bh eS hle aA ca;have uM:=h2.SY dB aE dk ai ay hle aA ca eS;rw [← FW aE.1 cc] at uM;have S3:=KE aE.1 cc aE.2.1;refine vU (fun _ _ _ (q:kx N B ro s w' bh Q _ _ _)=>q.after hle aA) _ _ _ (aW bP _ B ro V E _ w' bh (by simpa using cc) ag uM)
 induction h with
 | @congr J D env s e he h aW=>
  intro fuel t listed B ro V E a w p cc r4 h2;refine aW fuel t listed B ro V E a w p cc r4 ⟨h2.sub,h2.r1,h2.qQ,h2.st,fun t v ar=>h2.known t v ((he t).symm.trans ar),fun i o aa ad aj=>?_,h2.bound,h2.inv⟩;obtain ⟨d,ea,dr,dG,m4⟩:=h2.wA i o aa ad aj;exact ⟨d,ea,dr,(he d).trans dG,m4⟩
 | @fin J D env s dk bn=>
  intro fuel
  induction fuel with
  | zero=>
   intro t listed B ro V E a w p cc r4 h2;have fJ:=KF (ops:=ops) (listed:=listed) ag;exact .here .normal bn (h2.post fJ)
  | succ fuel aW=>
   intro t listed B ro V E a w p cc r4 h2;rcases KH (ops:=ops) fuel t listed with ⟨aB,aq⟩|⟨i,aS,bP,aq⟩
   ·rw [aq]
    exact .here .normal bn (h2.post (KD dB.back aB cc))
   ·rw [aq]
    exact pending fuel aW bP listed B ro V E a w p i cc r4 h2 aS (dk i (mem_ready dB.back aS).1)
 | @still J D env s c9 i o d v aE ai ay a1 ar h aW=>
  intro fuel t listed B ro V E a w p cc r4 h2;exact aW fuel t listed B ro _ _ a w p cc r4 (h2.ahead dB aE ai ay a1 c9 ar)
 | @split J D env s K X wz cP aq aI aA lx ab S4 S5=>
  intro fuel
  induction fuel with
  | zero=>
   intro t listed B ro V E a w p cc r4 h2;have fJ:=KF (ops:=ops) (listed:=listed) ag;obtain ⟨j,aI,FX⟩:=cP;have:=h2.sub j (fJ j aI);rw [FX] at this;cases this
  | succ fuel aW=>
   intro t listed B ro V E a w p cc r4 h2;rcases KH (ops:=ops) fuel t listed with ⟨aB,lz⟩|⟨i,aS,bP,lz⟩
   ·obtain ⟨j,aI,FX⟩:=cP
    have:=h2.sub j (KD dB.back aB cc j aI);rw [FX] at this;cases this
   ·rw [lz]
    cases dk:D i with
    | true=>exact pending fuel aW bP listed B ro V E a w p i cc r4 h2 aS dk
    | false=>
     have aE:=mem_ready dB.back aS;obtain ⟨o,ai⟩:∃ o,ops[i]? = some o:=⟨_,at5 aE.1⟩;obtain ⟨pV,aK⟩:=h2.ready dB aE dk ai;obtain ⟨k1,m',nG⟩:=aq i _ pV ai;have S3:=KE aE.1 cc aE.2.1;rw [KG ai,f7 (vT aK k1)];refine ⟨m'.1,(m'.2 ro B a w p aK).mono ?_⟩;rintro e w' ⟨ak,bh,hle,lS,ca,he⟩;cases e with
     | returned val=>
      obtain ⟨x,bk,eS⟩:=he;have uM:=h2.SZ dB aE pV ai nG hle lS ca eS (aI i _ pV ai x ak bk);rw [← FW aE.1 cc] at uM;refine vU (fun _ _ _ (q:kx N B ro ak w' bh Q _ _ _)=>q.after hle lS) _ _ _ ?_;cases ay:o.dst with
      | none=>
       rw [ay] at uM;exact S5 i _ pV ai ay x ak bk fuel bP _ B ro V E _ w' bh (by simpa using cc) ag uM
      | some d=>
       rw [ay] at uM;exact S4 i _ d pV ai ay x ak bk fuel bP _ B ro V E _ w' bh (by simpa using cc) ag uM
     | panicked dx=>
      obtain ⟨v,x,kW,iB,eS⟩:=he;exact ⟨.panic x,[],ak,bh,.panic v x _ kW eS,ab i _ pV ai x ak iB,h2.st.step hle lS ca,hle,lS⟩
     | outgrown=>exact he
theorem S6 (ops:Array Oper):r3 (al4 ops.size false) ops.size≤ops.size:=by
 unfold r3;have:=List.countP_le_length (p:=fun i => !jI (al4 ops.size false) ops.size i) (l:=ah8 ops.size);simpa using this
theorem af.draw (aR:bR P Γ) (hm:P.follows .mixedOrders=true) {id:Nat} (dB:uL ops) {env:Env} {s:ao} (h:bq J P Γ N ops Q (fun _=>false) env s):af P N (.region id ops true) Q env s:=by
 intro b B a w p _ aK;refine Rx fun t=>?_
 simp only [Region.schedule,hm,Bool.true_or,ag5];have hR:dw N B b.roundOf env s a w.drew p:=aK.step kX vW (x7 aK.wf);have S7:jI (al4 ops.size false) ops.size=fun _=>false:=by
  funext i;unfold jI;by_cases aS:i<ops.size
  ·simp [aS]
  ·simp [aS]
 have h2:k0 J P Γ N B b.roundOf ops (fun _=>false) (jI (al4 ops.size false) ops.size) (fun _ => .any) (fun _=>[]) env s a w.drew p:=by
  rw [S7];exact ⟨fun i h=>h,fun i j h=>oa,fun i j h=>oa,hR.restrict [] (by simp [Env.get?]),fun t v ar => .inr (hR.env t v ar),fun i o h=>oa,fun i h=>oa,.inl fun i h=>oa⟩
 have:=bq.sound aR dB h ops.size t (al4 ops.size false) B b.roundOf _ _ a w.drew p bc (S6 ops) h2;exact vU (fun _ _ _ (q:kx N B b.roundOf s w.drew p Q _ _ _)=>q.after kX vW) _ _ _ this
end
def wB (o:Oper):List Nat:=o.after.toList.filterMap fun e=>if Region.binds .any e then some e.on else none
def qT (l:List Nat) (i:Nat):Nat:=match nth l i with|some x=>x|none=>0
def yi (acc:List Nat):List Nat→Nat
 | []=>0
 | j::wC=>(2^j|||qT acc j)|||yi acc wC
def wD:List Oper→List Nat→List Nat
  | [],acc=>acc
  | o::r,acc=>match yi acc (wB o) with
    | 0=>wD r (acc++[0])
    | m+1=>wD r (acc++[m+1])
def CW (ops:Array Oper) (x y:Oper):Bool:=
 (match x.dst with|some d=>(looks ops y).contains d|none=>false)||(match y.dst with|some d=>(looks ops x).contains d|none=>false)
def r5 (ops:Array Oper):Bool:=
  let ms:=wD ops.toList []
  (ah8 ops.size).all fun j=>match ops[j]? with
    | none=>false
    | some y=>(wB y).all (fun k=>z2 k j)&&(match y.dst with|some d => !(looks ops y).contains d|none=>true) &&
      (ah8 j).all fun i=>match ops[i]? with
        | none=>false
        | some x=>(match x.dst,y.dst with|some d,some c4 => !af2 d c4|_,_=>true)&&(!CW ops x y||(qT ms j).testBit i)
theorem CX {ops:Array Oper} {i j:Nat} {o:Oper} (ai:ops[i]? = some o):j∈wB o↔qO ops i j:=by
 unfold wB qO;simp only [List.mem_filterMap,Array.mem_toList_iff];constructor
 ·rintro ⟨e,he,h⟩
  split at h
  ·cases h;exact ⟨o,e,ai,he,‹_›,rfl⟩
  ·cases h
 ·rintro ⟨o',e,cz,he,an,rfl⟩
  rw [ai] at cz;cases cz;exact ⟨e,he,by simp [an]⟩
theorem S8 {ops:Array Oper} {acc:List Nat} {k:Nat} (uN:∀ i j,(qT acc i).testBit j=true→lv ops i j):∀ (wC:List Nat),(∀ j∈wC,qO ops k j)→∀ j,(yi acc wC).testBit j=true→lv ops k j:=by
 intro wC
 induction wC with
 | nil=>intro _ j h;simp [yi] at h
 | cons x wC aW=>
  intro ay j h;simp only [yi,al7,Bool.or_eq_true] at h;rcases h with (h|h)|h
  ·rw [ak6] at h
   have:=aj1 h;subst this;exact .dep (ay _ (i6 ..))
  ·exact .trans (ay _ (i6 ..)) (uN _ _ h)
  ·exact aW (fun y ax=>ay y (i0 _ ax)) j h
theorem KI {ops:Array Oper}:∀ (r:List Oper) (acc:List Nat),(∀ i,r[i]? = ops[acc.length+i]?)→(∀ i j,(qT acc i).testBit j=true→lv ops i j) →
  ∀ i j,(qT (wD r acc) i).testBit j=true→lv ops i j:=by
 intro r
 induction r with
 | nil=>intro acc _ h;exact h
 | cons o r aW=>
  intro acc aE uN;have ai:ops[acc.length]? = some o:=by simpa using (aE 0).symm
  have hm:=S8 uN (k:=acc.length) (wB o) (fun j aI=>(CX ai).1 aI);have key:∀ m,yi acc (wB o)=m→∀ i j,(qT (wD r (acc++[m])) i).testBit j=true→lv ops i j:=by
   intro m FY;refine aW (acc++[m]) (fun i=>?_) (fun i j h=>?_)
   ·have:=aE (i+1)
    simp only [ai4] at this;rw [this];simp [ao4,ar3 1 i]
   ·unfold qT at h
    rw [x8] at h;by_cases aS:i<acc.length
    ·rw [af9 aS] at h
     exact uN i j (by unfold qT;rw [x8];exact h)
    ·rw [ae' ag] at h
     by_cases he:i=acc.length
     ·subst he
      simp at h;rw [← FY] at h;exact hm j h
     ·have:i-acc.length≠0:=by omega
      cases ab:i-acc.length with
      | zero=>omega
      | succ n=>rw [ab] at h;simp at h
  simp only [wD];split
  ·rename_i bo;exact key _ bo
  ·rename_i m bo;exact key _ bo
theorem FZ {ops:Array Oper} (h:r5 ops=true):uL ops:=by
 unfold r5 at h;simp only [af5,aj2] at h;have ju:=KI (ops:=ops) ops.toList [] bc (by intro i j h;simp [qT,nth] at h);have one:∀ j y,ops[j]? = some y→(∀ k,qO ops j k→k<j)∧(∀ d,y.dst=some d→d∉looks ops y) ∧
   (∀ i x,i<j→ops[i]? = some x→(∀ d,x.dst=some d→y.dst≠some d)∧(CW ops x y=true→lv ops j i)):=by
  intro j y ax;have aI:j<ops.size:=(t8.1 ax).1;have:=h j aI;simp only [ax,f4,af5,aj2] at this;obtain ⟨⟨aa,ad⟩,aj⟩:=this;refine ⟨fun k aA=>?_,fun d ay=>?_,fun i x aS ab=>?_⟩
  ·have:=aa k ((CX ax).2 aA)
   simpa [an7] using this
  ·rw [ay] at ad;simpa using ad
  ·have:=aj i aS
   simp only [ab,f4] at this;obtain ⟨g1,g2⟩:=this;refine ⟨fun d ay cg=>?_,fun aD=>?_⟩
   ·rw [ay,cg] at g1;simp at g1
   ·rw [aD] at g2
    exact ju j i (by simpa using g2)
 refine ⟨fun i j x y d ab ax Ac KJ=>?_,fun i j x y d cP ab ax Ac aC=>?_,fun i j ay=>?_,fun i x d ab ay=>(one i x ab).2.1 d ay⟩
 ·rcases aq8 i j with az|he|o0
  ·exact absurd KJ (((one j y ax).2.2 i x az ab).1 d Ac)
  ·exact he
  ·exact absurd Ac (((one i x ab).2.2 j y o0 ax).1 d KJ)
 ·rcases aq8 i j with az|he|o0
  ·exact .inr (((one j y ax).2.2 i x az ab).2 (by simp [CW,Ac,aC]))
  ·exact absurd he cP
  ·exact .inl (((one i x ab).2.2 j y o0 ax).2 (by simp [CW,Ac,aC]))
 ·obtain ⟨o,e,ai,-⟩:=id ay
  exact (one i o ai).1 j ay
def wE (Γ:cw) (N:Nat) (ops:Array Oper) (E:Env) (o:Oper):Option (Nat×ah):=
  match o.dst with
  | none=>none
  | some d=>match z2 d N with
    | false=>none
    | true=>match guardOf ops E o with
      | some true=>match pL Γ o E with
        | some v=>some (d,v)
        | none=>none
      | some false=>some (d,.cr [])
      | none=>none
def Ad (Γ:cw) (N:Nat) (ops:Array Oper):List Oper→Env→List Oper×Env
  | [],env=>([],env)
  | o::l,env=>match wE Γ N ops env o with
    | some (d,v)=>Ad Γ N ops l ((d,v)::env)
    | none=>(o::l,env)
theorem CY {J:ao→Prop} {P:Program} {Γ:cw} {N:Nat} {ops:Array Oper} {E:Env} {o:Oper} {d:Nat} {v:ah} (h:wE Γ N ops E o=some (d,v)):o.dst=some d∧d<N∧Still J P Γ N ops o E v:=by
 unfold wE at h;split at h
 ·cases h
 ·rename_i c4 ay
  split at h
  ·cases h
  ·rename_i a1
   split at h
   ·rename_i aq
    split at h
    ·rename_i fy ar;cases h;exact ⟨ay,by simpa [an7] using a1,.inl ⟨aq,.a ar⟩⟩
    ·cases h
   ·rename_i aq;cases h;exact ⟨ay,by simpa [an7] using a1,.inr (.inl ⟨aq,rfl⟩)⟩
   ·cases h
section
variable {P:Program} {Γ:cw} {N:Nat} {ops:Array Oper} {Q:b3→Env→ao→Prop} {env:Env} {s:ao}
theorem ae.run (aR:bR P Γ) {l lA:List Oper} {eU:Env} (h:Ad Γ N ops l env=(lA,eU)) (aA:ae P N ops lA Q eU s):ae P N ops l Q env s:=by
 induction l generalizing env with
 | nil=>simp only [Ad,Prod.mk.injEq] at h;obtain ⟨rfl,rfl⟩:=h;exact aA
 | cons o l aW=>
  simp only [Ad] at h;split at h
  ·rename_i d v aM
   obtain ⟨ay,a1,au⟩:=CY (J:=nQ) (P:=P) aM;have pW:z2 d N=true:=by simpa [an7] using a1
   rcases au with ⟨aq,ar⟩|⟨aq,rfl⟩|⟨aq,ar⟩
   ·exact ae.pure aR aq ay pW ar (aW h)
   ·exact ae.skip aq ay pW (aW h)
   ·exact ae.op aq ay pW (ar s trivial) (fun x ak ⟨aa,ad⟩=>by subst aa;subst ad;exact aW h) (fun _ _ h=>h.elim)
  ·simp only [Prod.mk.injEq] at h;obtain ⟨rfl,rfl⟩:=h;exact aA
theorem ae.CZ {l:List Oper} (t:Nat) {v fy:ah} (ar:env.get? t=some v) (he:v=fy) (h:ae P N ops l Q ((t,fy)::env) s):ae P N ops l Q env s:=by
 subst he;intro k aA ro B a w p aK
 exact h k aA ro B a w p ⟨aK.size,fun u x ab=>by
  simp only [Env.get?] at ab
  split at ab
  ·rename_i an;have:=ad' an;subst this;cases ab;exact aK.env _ _ ar
  ·exact aK.env u x ab,aK.wf,aK.defs,aK.round,aK.base⟩
theorem ae.dK {l:List Oper} (t:Nat) {b:Bool} (ar:env.get? t=some (.bool b)) (he:b=true) (h:ae P N ops l Q ((t,.bool true)::env) s):ae P N ops l Q env s:=ae.CZ t ar (ae6 ah.bool he) h
theorem ae.dh {l:List Oper} (t:Nat) {b:Bool} (ar:env.get? t=some (.bool b)) (he:b=false) (h:ae P N ops l Q ((t,.bool false)::env) s):ae P N ops l Q env s:=ae.CZ t ar (ae6 ah.bool he) h
theorem ae.sub {l:List Oper} (e:Env) (au:Env.Sub e env) (h:ae P N ops l Q e s):ae P N ops l Q env s:=
 fun k aA ro B a w p aK=>h k aA ro B a w p (aK.sub au)
theorem ae.drop {l:List Oper} (ak:ao) (au:ao.Sub ak s) (h:ae P N ops l Q env ak):ae P N ops l Q env s:=
 fun k aA ro B a w p aK=>vU (fun _ _ _ (q:kx N B ro ak w p Q _ _ _)=>let ⟨x,eU,eL,bh,aa,ad,aj,a8,bB⟩:=q;⟨x,eU,eL,bh,aa,ad,aj,a8,bB.x4 au⟩) _ _ _ (h k aA ro B a w p (aK.Fk au))
end
def bX (m:Nat):Nat→Bool:=fun i=>m.testBit i
theorem pa (m i:Nat):dX (bX m) i=bX (m|||2^i):=by
 funext j;unfold dX bX;rw [al7,ak6];by_cases e:j=i
 ·subst e;simp
 ·have e':¬ i=j:=fun h=>e h.symm
  simp [e,e']
def iG (ops:Array Oper) (m i:Nat):Bool:=match ops[i]? with
 | none=>false
 | some o => !(m.testBit i)&&(wB o).all fun j=>m.testBit j
theorem tx {ops:Array Oper} {m i:Nat}:iG ops m i=true↔hn ops (bX m) i:=by
 unfold iG hn bX;constructor
 ·intro h
  split at h
  ·cases h
  ·rename_i o ai
   simp only [f4,ai3,af5] at h;exact ⟨(t8.1 ai).1,h.1,fun j aI=>h.2 j ((CX ai).2 aI)⟩
 ·rintro ⟨aa,ad,aj⟩
  have ai:ops[i]? = some ops[i]:=at5 aa;rw [ai];simp only [ad,Bool.not_false,f5,af5];exact fun j aI=>aj j ((CX ai).1 aI)
def eP (ops:Array Oper) (m:Nat):List Nat→List Nat
  | []=>[]
  | i::is=>match iG ops m i with
    | true=>i::eP ops m is
    | false=>eP ops m is
theorem Ae {ops:Array Oper} {m i:Nat} {l:List Nat} (h:hn ops (bX m) i) (aS:i∈l):i∈eP ops m l:=by
 induction l with
 | nil=>cases aS
 | cons j l aW=>
  simp only [eP];rcases ae8.1 aS with rfl|aS
  ·rw [tx.2 h];exact i6 ..
  ·split
   ·exact i0 _ (aW aS)
   ·exact aW aS
def qU (Γ:cw) (N:Nat) (ops:Array Oper):List Nat→Nat→Env→Nat×Env
  | [],m,env=>(m,env)
  | i::is,m,env=>match ops[i]? with
    | none=>qU Γ N ops is m env
    | some o=>match iG ops m i with
      | false=>qU Γ N ops is m env
      | true=>match wE Γ N ops (iF env (looks ops o)) o with
        | some (d,v)=>match m|||2^i with
          | 0=>qU Γ N ops is 0 ((d,v)::env)
          | k+1=>qU Γ N ops is (k+1) ((d,v)::env)
        | none=>qU Γ N ops is m env
def idxs:Nat→List Oper→List Nat
 | _,[]=>[]
 | k,_::l=>k::idxs (k+1) l
theorem yj (k:Nat) (l:List Oper):idxs k l=ay3 k l.length:=by
 induction l generalizing k with
 | nil=>rfl
 | cons o l aW=>simp [idxs,aW,ax4]
section
variable {J:ao→Prop} {P:Program} {Γ:cw} {N:Nat} {l:List Oper} {Q:b3→Env→ao→Prop} {env:Env} {s:ao} {m:Nat}
theorem bq.runs (c9:J s) {is:List Nat} {iP:Nat} {eU:Env} (h:qU Γ N l.toArray is m env=(iP,eU)) (aA:bq J P Γ N l.toArray Q (bX iP) eU s):bq J P Γ N l.toArray Q (bX m) env s:=by
 induction is generalizing m env with
 | nil=>simp only [qU,Prod.mk.injEq] at h;obtain ⟨rfl,rfl⟩:=h;exact aA
 | cons i is aW=>
  simp only [qU] at h;split at h
  ·exact aW h
  ·rename_i o ai
   split at h
   ·exact aW h
   ·rename_i aE
    split at h
    ·rename_i d v aM
     obtain ⟨ay,a1,au⟩:=CY aM;refine bq.still c9 i o d v (tx.1 aE) ai ay a1 au ?_;rw [pa];split at h
     ·rename_i bo;rw [bo];exact aW h
     ·rename_i k bo;rw [bo];exact aW h
    ·exact aW h
theorem bf.runs {is:List Nat} {iP:Nat} {eU:Env} (h:qU Γ N l.toArray is m env=(iP,eU)) (aA:bf P Γ N l.toArray Q (bX iP) eU s):bf P Γ N l.toArray Q (bX m) env s:=bq.runs trivial h aA
theorem bq.run (c9:J s) {iP:Nat} {eU:Env} (h:qU Γ N l.toArray (idxs 0 l) m env=(iP,eU)) (aA:bq J P Γ N l.toArray Q (bX iP) eU s):bq J P Γ N l.toArray Q (bX m) env s:=bq.runs c9 h aA
theorem bf.run {iP:Nat} {eU:Env} (h:qU Γ N l.toArray (idxs 0 l) m env=(iP,eU)) (aA:bf P Γ N l.toArray Q (bX iP) eU s):bf P Γ N l.toArray Q (bX m) env s:=bq.runs trivial h aA
theorem bf.done (dk:(idxs 0 l).all (fun i=>m.testBit i)=true) (h:Q .normal env s):bq J P Γ N l.toArray Q (bX m) env s:=by
 refine bq.fin (fun i aS=>?_) h;simp only [af5] at dk;refine dk i ?_;rw [yj,aq9];have:i<l.length:=by simpa using aS
 omega
def k2 (ops:Array Oper) (i:Nat):Bool:=(ah8 ops.size).all fun j=>af2 j i||(qT (wD ops.toList []) i).testBit j
theorem C0 {ops:Array Oper} {i:Nat} (h:k2 ops i=true):∀ j,j<ops.size→j≠i→lv ops i j:=by
 intro j aI cP;simp only [k2,af5] at h;have:=h j (aj2.2 aI);have an:af2 j i=false:=by
  cases an:af2 j i with
  | false=>rfl
  | true=>exact absurd (ad' an) cP
 rw [an,ah2] at this;refine KI ops.toList [] (fun i=>by simp) (fun i j h=>?_) i j this;have:qT [] i=0:=by cases i<;>rfl
 rw [this] at h;simp at h
theorem bq.one {i:Nat} {o:Oper} {d:Nat} {K X:ah→ao→Prop} (aE:eP l.toArray m (idxs 0 l)=[i]) (ai:l.toArray[i]? = some o) (ay:o.dst=some d) (a1:z2 d N=true)
  (aq:c8 l env o) (h:a6 P N o (b2 l env o) s K X)
  (aI:∀ x ak,K x ak→J ak∨k2 l.toArray i=true) (aA:∀ x ak,K x ak→bq J P Γ N l.toArray Q (bX (m|||2^i)) ((d,x)::env) ak) (ab:∀ x ak,X x ak→Q (.panic x) [] ak):bq J P Γ N l.toArray Q (bX m) env s:=by
 have fo:∀ j,hn l.toArray (bX m) j→j=i:=fun j aI=>by
  have:=Ae aI (l:=idxs 0 l) (by rw [yj,aq9];have:=aI.1;simp at this;omega);rw [aE] at this;simpa using this
 have jb:hn l.toArray (bX m) i:=by
  have fs:i∈eP l.toArray m (idxs 0 l):=by rw [aE];exact i6 ..
  have:∀ is,i∈eP l.toArray m is→iG l.toArray m i=true:=by
   intro is
   induction is with
   | nil=>intro h;cases h
   | cons j is aW=>
    intro h;simp only [eP] at h;split at h
    ·rename_i an
     rcases ae8.1 h with rfl|h
     ·exact an
     ·exact aW h
    ·exact aW h
  exact tx.1 (this _ fs)
 refine bq.split (fun _=>K) (fun _=>X) ⟨i,jb.1,jb.2.1⟩ (fun j o' aI cz=>?_) (fun j o' wF cz x ak bk=>by have:=fo j wF;subst this;exact (aI x ak bk).imp id C0) (fun j o' c4 aI cz cg x ak bk=>?_) (fun j o' aI cz cg x ak bk=>?_) (fun j o' aI cz x ak iB=>ab x ak iB)
 ·have:=fo j aI;subst this
  rw [ai] at cz;cases cz;exact ⟨aq,h,fun c4 cg=>by rw [ay] at cg;cases cg;simpa [an7] using a1⟩
 ·have:=fo j aI;subst this
  rw [ai] at cz;cases cz;rw [ay] at cg;cases cg;rw [pa];exact aA x ak bk
 ·have:=fo j aI;subst this
  rw [ai] at cz;cases cz;rw [ay] at cg;cases cg
theorem bq.yk {i:Nat} {o:Oper} {K X:ah→ao→Prop} (aE:eP l.toArray m (idxs 0 l)=[i]) (ai:l.toArray[i]? = some o) (ay:o.dst=none)
  (aq:c8 l env o) (h:a6 P N o (b2 l env o) s K X)
  (aI:∀ x ak,K x ak→J ak∨k2 l.toArray i=true) (aA:∀ x ak,K x ak→bq J P Γ N l.toArray Q (bX (m|||2^i)) env ak) (ab:∀ x ak,X x ak→Q (.panic x) [] ak):bq J P Γ N l.toArray Q (bX m) env s:=by
 have fo:∀ j,hn l.toArray (bX m) j→j=i:=fun j aI=>by
  have:=Ae aI (l:=idxs 0 l) (by rw [yj,aq9];have:=aI.1;simp at this;omega);rw [aE] at this;simpa using this
 have az:i<l.toArray.size:=(t8.1 ai).1;have pb:bX m i=false:=by
  cases an:bX m i with
  | false=>rfl
  | true=>
   have fs:i∈eP l.toArray m (idxs 0 l):=by rw [aE];exact i6 ..
   have:∀ is,i∈eP l.toArray m is→iG l.toArray m i=true:=by
    intro is
    induction is with
    | nil=>intro h;cases h
    | cons j is aW=>
     intro h;simp only [eP] at h;split at h
     ·rename_i an
      rcases ae8.1 h with rfl|h
      ·exact an
      ·exact aW h
     ·exact aW h
   have:=(tx.1 (this _ fs)).2.1;rw [an] at this;cases this
 refine bq.split (fun _=>K) (fun _=>X) ⟨i,az,pb⟩ (fun j o' aI cz=>?_) (fun j o' wF cz x ak bk=>by have:=fo j wF;subst this;exact (aI x ak bk).imp id C0) (fun j o' c4 aI cz cg x ak bk=>?_) (fun j o' aI cz cg x ak bk=>?_) (fun j o' aI cz x ak iB=>ab x ak iB)
 ·have:=fo j aI;subst this
  rw [ai] at cz;cases cz;exact ⟨aq,h,fun c4 cg=>by rw [ay] at cg;cases cg⟩
 ·have:=fo j aI;subst this
  rw [ai] at cz;cases cz;rw [ay] at cg;cases cg
 ·have:=fo j aI;subst this
  rw [ai] at cz;cases cz;rw [pa];exact aA x ak bk
theorem bf.one {i:Nat} {o:Oper} {d:Nat} {K X:ah→ao→Prop} (aE:eP l.toArray m (idxs 0 l)=[i]) (ai:l.toArray[i]? = some o) (ay:o.dst=some d) (a1:z2 d N=true)
  (aq:c8 l env o) (h:a6 P N o (b2 l env o) s K X)
  (aA:∀ x ak,K x ak→bf P Γ N l.toArray Q (bX (m|||2^i)) ((d,x)::env) ak) (ab:∀ x ak,X x ak→Q (.panic x) [] ak):bf P Γ N l.toArray Q (bX m) env s:=
 bq.one aE ai ay a1 aq h (fun _ _ _ => .inl trivial) aA ab
theorem bf.yk {i:Nat} {o:Oper} {K X:ah→ao→Prop} (aE:eP l.toArray m (idxs 0 l)=[i]) (ai:l.toArray[i]? = some o) (ay:o.dst=none)
  (aq:c8 l env o) (h:a6 P N o (b2 l env o) s K X)
  (aA:∀ x ak,K x ak→bf P Γ N l.toArray Q (bX (m|||2^i)) env ak) (ab:∀ x ak,X x ak→Q (.panic x) [] ak):bf P Γ N l.toArray Q (bX m) env s:=
 bq.yk aE ai ay aq h (fun _ _ _ => .inl trivial) aA ab
theorem bf.congr {ops:Array Oper} {D:Nat→Bool} (e:Env) (he:∀ t,e.get? t=env.get? t) (h:bf P Γ N ops Q D e s):bf P Γ N ops Q D env s:=bq.congr e he h
theorem af.qV (J:ao→Prop) (aR:bR P Γ) (hm:P.follows .mixedOrders=true) {id:Nat} (dB:r5 l.toArray=true) (h:bq J P Γ N l.toArray Q (bX 0) env s):af P N (.region id l.toArray true) Q env s:=by
 refine af.draw (J:=J) aR hm (FZ dB) ?_;have:bX 0=fun _=>false:=by funext i;simp [bX]
 rw [this] at h;exact h
theorem af.r6 (aR:bR P Γ) (hm:P.follows .mixedOrders=true) {id:Nat} (dB:r5 l.toArray=true) (h:bf P Γ N l.toArray Q (bX 0) env s):af P N (.region id l.toArray true) Q env s:=by
 refine af.draw (J:=nQ) aR hm (FZ dB) ?_;have:bX 0=fun _=>false:=by funext i;simp [bX]
 rw [this] at h;exact h
end
end Go.Proofs.YtnafpeohfbglmaaGreat
