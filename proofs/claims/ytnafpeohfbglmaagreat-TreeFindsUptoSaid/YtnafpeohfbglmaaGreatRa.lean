import Derived.AtR
import Derived.Defers
import Derived.Laws.Sem
import Derived.Laws.World
import Derived.Laws.NewBlocks
import Derived.Laws.Cells
import Derived.Laws.Strings
import Derived.Laws.Tables
import Derived.Laws.Small
import Derived.LaidEql
import Derived.Laws.Append
import Derived.Laws.CopyRow
import Derived.Laws.Slices
import Derived.Laws.IdiomStrings
import Derived.Orders
set_option linter.unusedVariables false
set_option linter.unusedSimpArgs false
universe u
open Array renaming all_eq_true'→ax3,ext'→am',foldl_toList→at2,getD_eq_getD_getElem?→ad8,getElem?_append_left→aq2,getElem?_eq_getElem→aq7,getElem?_eq_some_iff→i9,getElem?_push→aw6,getElem?_setIfInBounds→ae3,length_toList→ac7,replicate→ai9,toList_extract→as3,toList_push→ap4
open Bool renaming and_eq_true→f7,false_eq_true→ad4,false_or→ae9,not_eq_true'→ag8,not_true→ah7,true_and→f0
open Int renaming ofNat→ap'
open List renaming all_eq_true→af3,append_assoc→ae',drop_nil→az4,drop_succ_cons→as6,eq_nil_of_length_eq_zero→af5,flatMap_cons→ah4,flatMap→aA2,foldl_cons→af2,getElem?_append_left→ad6,getElem?_append_right→ad5,getElem?_cons_succ→am8,getElem?_eq_some_iff→ac3,getElem?_map→ad2,getElem?_take→af',length_append→f8,length_cons→i8,length_drop→ag2,length_take→ac8,mapM_cons→av3,map_cons→ac4,map_nil→ae5,map_toArray→ao2,mem_append→ac9,mem_cons_of_mem→i5,mem_cons_self→i7,mem_cons→ad1,mem_filter→af6,mem_map→ad7,mem_of_mem_take→am1,mem_range'_1→an9,mem_range→ah9,mem_singleton→z2,nil_append→d8,nodup_cons→ap1,range'_succ→au0,range'→av0,range→ae7,replicate→t7,size_toArray→ak7,take_left→av1,take_nil→az3,zipIdx_cons→at8
open Nat renaming add_assoc→al3,add_comm→an1,add_mul→ah',add_zero→ap6,beq_refl→aq',beq→ac',ble→al5,blt_eq→ak8,blt→t6,eq_of_beq_eq_true→ac1,le_of_ble_eq_true→al4,le_refl→i0,le_trans→ai',lt_of_lt_of_le→ai7,lt_trichotomy→ar7,mul_le_mul_right→ak3,strongRecOn→as1,testBit_or→aj8,testBit_two_pow→aj0,zero_add→ae4
open Option renaming bind_some→ah2,getD_some→ae1,isSome_none→an0,map_eq_some_iff→au7,map_some→al9,some→al8
open Go.Result renaming andThen_ok→g9
open Go.Sem renaming runT_eq→ar9,run_bind→aa',run_pure→ac5,run→at6
theorem d9 {c:Prop} {h:Decidable c} (k:¬c) {α:Sort _} {t e:α}:(if c then t else e)=e:=if_neg k
theorem f9 {c:Prop} {h:Decidable c} (k:c) {α:Sort _} {t e:α}:(if c then t else e)=t:=if_pos k
theorem i6 {p:Prop} [h:Decidable p] (k:p):decide p=true:=decide_eq_true k
theorem t8 {p:Prop} [h:Decidable p] (k:¬p):decide p=false:=decide_eq_false k
theorem g8 {p:Prop} [h:Decidable p]:(decide p=true)=p:=decide_eq_true_eq
theorem C {α:Sort u} {a:α}:a=a:=Eq.refl a
theorem xI {p:Prop} (h:p:=by rw [List.length_take,ct];omega):p:=h
theorem t' {p:Prop} (h:p:=by rw [List.length_take];omega):p:=h
theorem qg {p:Prop} (h:p:=by simpa using ae):p:=h
theorem fZ {p:Prop} (h:p:=by simpa using h):p:=h
theorem cE {p:Prop} (h:p:=by simp;omega):p:=h
theorem nQ {p:Prop} (h:p:=by cases h):p:=h
theorem ag {p:Prop} (h:p:=by omega):p:=h
theorem ba {p:Prop} (h:p:=by simp):p:=h
namespace Go.cW
inductive hb where
 | normal
 | exit (id:Nat)
 | ret
 | panic (chain:List PanicEntry)
def qh (P:Program) (m:Machine) (b:Frame) (k:List Item) (cs:List Frame):hb→Act→World→Prop
  | .normal,a,w=>Steps P m (lone (b.atR a k) cs w)
  | .exit id,a,w=>(∀ k',exitTo id k=some k'→Steps P m (lone (b.atR a k') cs w)) ∧
      (exitTo id k=none→∃ k₁,exitTo id k₁=none∧Steps P m (lone (b.atR a (.code (.exit id)::k₁)) cs w))
  | .ret,a,w=>∃ k₁,Steps P m (lone (b.atR a (.code .ret::k₁)) cs w)
  | .panic dF,a,w=>∃ k₁,Steps P m (lone { b.atR a k₁ with mode := .panicking dF } cs w)
theorem qh.of_steps {P:Program} {m m₁:Machine} {b:Frame} {k:List Item} {cs:List Frame} {e:hb} {a:Act} {w:World}
  (h:Steps P m m₁) (eX:qh P m₁ b k cs e a w):qh P m b k cs e a w:=by
 cases e with
 | normal=>exact h.trans eX
 | exit id=>exact ⟨fun k' aD=>h.trans (eX.1 k' aD),fun aD=>let ⟨k₁,U,ae⟩:=eX.2 aD;⟨k₁,U,h.trans ae⟩⟩
 | ret=>obtain ⟨k₁,au⟩:=eX;exact ⟨k₁,h.trans au⟩
 | panic dF=>obtain ⟨k₁,au⟩:=eX;exact ⟨k₁,h.trans au⟩
def jT (P:Program) (b:Frame) (c:Code) (Q:hb→Act→World→Prop) (a:Act) (w:World):Prop:=
 ∀ (k:List Item) (cs:List Frame),∃ e da w',Q e da w'∧qh P (lone (b.atR a (.code c::k)) cs w) b k cs e da w'
section rules
variable {P:Program} {b:Frame} {Q:hb→Act→World→Prop} {a:Act} {w:World}
theorem mc {c:Code} {oJ:hb→Act→World→Prop} (h:jT P b c Q a w) (bq:∀ e a w,Q e a w→oJ e a w):jT P b c oJ a w:=
 fun k cs=>let ⟨e,da,w',q,r⟩:=h k cs;⟨e,da,w',bq _ _ _ q,r⟩
theorem P8 (h:Q .normal a w):jT P b .skip Q a w:=fun _ _=>⟨.normal,a,w,h,.one stepR_skip⟩
theorem P9 (h:Q .ret a w):jT P b .ret Q a w:=fun k _=>⟨.ret,a,w,h,k,.refl P _⟩
theorem P' {id:Nat} (h:Q (.exit id) a w):jT P b (.exit id) Q a w:=
 fun k _=>⟨.exit id,a,w,h,fun _ aD => .one (stepR_exit aD),fun aD=>⟨k,aD,.refl P _⟩⟩
def hb.andThen (next:Act→World→Prop) (Q:hb→Act→World→Prop):hb→Act→World→Prop
 | .normal,a,w=>next a w
 | e,a,w=>Q e a w
theorem qh.I' {m:Machine} {c:Code} {k:List Item} {cs:List Frame} {e:hb} {a:Act} {w:World} (x:Item) (ab:x.plain=true)
  (he:e ≠ .normal) (h:qh P m b (x::k) cs e a w):qh P m b k cs e a w:=by
 cases e with
 | normal=>exact absurd C he
 | exit id=>exact ⟨fun k' aD=>h.1 k' (by cases x<;>simp_all [exitTo,Item.plain]),fun aD=>h.2 (by cases x<;>simp_all [exitTo,Item.plain])⟩
 | ret=>exact h
 | panic dF=>exact h
theorem Qa {x y:Code} (h:jT P b x (hb.andThen (jT P b y Q) Q) a w):jT P b (.seq x y) Q a w:=by
 intro k cs;obtain ⟨e,iM,w₁,bq,f'⟩:=h (.code y::k) cs;by_cases he:e = .normal
 ·subst he
  obtain ⟨zj,BY,hM,ua,ub⟩:=bq k cs;exact ⟨zj,BY,hM,ua,.of_steps (.head stepR_seq f') ub⟩
 ·have qi:Q e iM w₁:=by cases e<;>first|exact absurd C he|exact bq
  exact ⟨e,iM,w₁,qi,.of_steps (.one stepR_seq) (qh.I' (c:=y) (.code y) C he f')⟩
theorem Qb {c:Operand} {x y:Code} {t:Bool} (aA:a.eval c = .bool t) (h:jT P b (if t then x else y) Q a w):jT P b (.cond c x y) Q a w:=
 fun k cs=>let ⟨e,da,w',q,r⟩:=h k cs;⟨e,da,w',q,.of_steps (.one (stepR_cond aA)) r⟩
def hb.inBlock (id:Nat) (Q:hb→Act→World→Prop):hb→Act→World→Prop
 | .exit kT,a,w=>if kT=id then Q .normal a w else Q (.exit kT) a w
 | e,a,w=>Q e a w
theorem Qc {id:Nat} {c:Code} (h:jT P b c (hb.inBlock id Q) a w):jT P b (.block id c) Q a w:=by
 intro k cs;obtain ⟨e,iM,w₁,bq,f'⟩:=h (.inBlock id::k) cs;cases e with
 | normal=>exact ⟨.normal,iM,w₁,bq,.head stepR_block (Steps.trans f' (.one stepR_inBlock))⟩
 | exit kT=>
  by_cases sI:kT=id
  ·simp only [hb.inBlock,sI,if_true] at bq
   exact ⟨.normal,iM,w₁,bq,.head stepR_block (f'.1 k (by simp [exitTo,sI]))⟩
  ·simp only [hb.inBlock,sI,if_false] at bq
   have cO:(id==kT)=false:=by simp;exact fun h=>sI h.symm
   refine ⟨.exit kT,iM,w₁,bq,fun k' aD => .head stepR_block (f'.1 k' (by simp [exitTo,cO,aD])),fun aD=>?_⟩;obtain ⟨k₁,U,ae⟩:=f'.2 (by simp [exitTo,cO,aD]);exact ⟨k₁,U,.head stepR_block ae⟩
 | ret=>obtain ⟨k₁,au⟩:=f';exact ⟨.ret,iM,w₁,bq,k₁,.head stepR_block au⟩
 | panic dF=>obtain ⟨k₁,au⟩:=f';exact ⟨.panic dF,iM,w₁,bq,k₁,.head stepR_block au⟩
end rules
def Round (P:Program) (l:Nat) (f:FuncId) (tmps:Array Value) (hf body:Code) (w:World) (R:Ending→World→Prop):Prop:=
 ∀ (c:Frame) (cs:List Frame),∃ e w',R e w' ∧
  match e with
  | .returned v=>Steps P (lone (Frame.round l f tmps hf body .normal) (c::cs) w) (lone (c.finish v) cs w')
  | .panicked dF=>Steps P (lone (Frame.round l f tmps hf body .normal) (c::cs) w) (lone (c.raise dF) cs w')
  | .outgrown=>False
def sJ (P:Program) (f:FuncId) (args:Array Value) (w:World) (R:Ending→World→Prop):Prop:=
 Calls P f args w fun e w'=>e ≠ .outgrown∧R e w'
theorem sJ.mono {P:Program} {f:FuncId} {args:Array Value} {w:World} {R dx:Ending→World→Prop} (h:sJ P f args w R)
  (aF:∀ e w',R e w'→dx e w'):sJ P f args w dx:=Calls.mono h fun e w' ⟨U,ae⟩=>⟨U,aF e w' ae⟩
def zk (P:Program) (gC:Next) (w:World) (R:Ending→World→Prop):Prop:=
 match gC with
 | .value v=>R (.returned v) w
 | .skip=>R (.returned undef) w
 | .enter f args=>sJ P f args w R
 | .round l f tmps hf body=>Round P l f tmps hf body w R
 | _=>False
def pv (P:Program) (r:Result Next) (R:Ending→World→Prop):Prop:=
 match r with
 | .ok gC w'=>zk P gC w' R
 | .halt (.panic v) w'=>R (.panicked [{ v,recovered:=false }]) w'
 | _=>False
theorem Round.mono {P:Program} {l:Nat} {f:FuncId} {tmps:Array Value} {hf body:Code} {w:World} {R dx:Ending→World→Prop}
  (h:Round P l f tmps hf body w R) (aF:∀ e w',R e w'→dx e w'):Round P l f tmps hf body w dx :=
 fun c cs=>let ⟨e,w',r,s⟩:=h c cs;⟨e,w',aF _ _ r,s⟩
theorem zk.mono {P:Program} {gC:Next} {w:World} {R dx:Ending→World→Prop} (h:zk P gC w R)
  (aF:∀ e w',R e w'→dx e w'):zk P gC w dx:=by
 cases gC<;>first|exact aF _ _ h|exact sJ.mono h aF|exact Round.mono h aF|exact h.elim
theorem pv.mono {P:Program} {r:Result Next} {R dx:Ending→World→Prop} (h:pv P r R) (aF:∀ e w',R e w'→dx e w'):pv P r dx:=by
 unfold pv at h ⊢;split at h
 ·exact zk.mono h aF
 ·exact aF _ _ h
 ·exact h.elim
def gJ (o:Oper):Bool:=match o.op with | .defer _=>false|_=>true
section ops
variable {P:Program} {b:Frame} {a:Act} {k:List Item} {cs:List Frame} {w:World} {ops:Array Oper}
theorem Qd {i:Nat} {rest:List Nat} {o:Oper} {R:Ending→World→Prop} (ah:ops[i]? = some o) (hw:Region.wanted o (yielded ops a.tmps)=true)
  (ax:gJ o=true) (h:pv P ((execOp a.eval o).run P w) R) :
  ∃ e w',R e w' ∧
   match e with
   | .returned v=>Steps P (lone (b.atR a (.inRegion ops (i::rest)::k)) cs w) (lone (b.atR (a.put o.dst v) (.inRegion ops rest::k)) cs w')
   | .panicked dF=>∃ k₁,Steps P (lone (b.atR a (.inRegion ops (i::rest)::k)) cs w) (lone { b.atR a k₁ with mode := .panicking dF } cs w')
   | .outgrown=>False:=by
 have aw:=stepGR_op (P:=P) (b:=b) (k:=k) (cs:=cs) (w:=w) (rest:=rest) ah hw;have Qe:o.semAt b.roundOf a.eval=execOp a.eval o:=Oper.semAt_eq _ _ _ (fun c aA=>by simp [gJ,aA] at ax);rw [Qe] at aw;have qj:∀ v,(b.atR a (.inRegion ops (i::rest)::k)).finish v=b.atR (a.put o.dst v) (.inRegion ops rest::k):=by
  intro v;rw [Frame.finish_atR,ah];rfl
 unfold pv at h;split at h
 ·rename_i gC w' aF
  cases gC with
  | value v=>
   refine ⟨.returned v,w',h,.one (step_lone_go ?_)⟩;rw [aw,← qj];simp [stepG.apply,aF]
  | skip=>
   refine ⟨.returned undef,w',h,.one (step_lone_go ?_)⟩;rw [aw,← qj];simp [stepG.apply,aF]
  | enter f args=>
   obtain ⟨e,me,hg,⟨lJ,ed⟩,sK,_,zl⟩:=h (b.atR a (.inRegion ops (i::rest)::k)::cs);have sL:step P (lone (b.atR a (.inRegion ops (i::rest)::k)) cs w) =
     .next (lone (Frame.enter P f args .normal) (b.atR a (.inRegion ops (i::rest)::k)::cs) w'):=
    step_lone_go (by rw [aw];simp [stepG.apply,aF,Frame.atR])
   cases e with
   | returned v=>
    refine ⟨.returned v,me,ed,.head sL (sK.trans (.one ?_))⟩;rw [← qj];exact step_leave_returned zl
   | panicked dF=>
    refine ⟨.panicked dF,me,ed,.inRegion ops (i::rest)::k,.head sL (sK.trans (.one ?_))⟩;rw [← Frame.raise_atR];exact step_leave_panicked zl
   | outgrown=>exact absurd C lJ
  | round l f tmps hf body=>
   obtain ⟨e,me,ed,sK⟩:=h (b.atR a (.inRegion ops (i::rest)::k)) cs;have sL:step P (lone (b.atR a (.inRegion ops (i::rest)::k)) cs w) =
     .next (lone (Frame.round l f tmps hf body .normal) (b.atR a (.inRegion ops (i::rest)::k)::cs) w'):=
    step_lone_go (by rw [aw];simp [stepG.apply,aF,Frame.atR])
   cases e with
   | returned v=>exact ⟨.returned v,me,ed,.head sL (by rw [← qj];exact sK)⟩
   | panicked dF=>exact ⟨.panicked dF,me,ed,.inRegion ops (i::rest)::k,.head sL (by rw [← Frame.raise_atR];exact sK)⟩
   | outgrown=>exact sK.elim
  | _=>exact h.elim
 ·rename_i v w' aF
  refine ⟨.panicked [{ v,recovered:=false }],w',h,.inRegion ops (i::rest)::k,.one (step_lone_go ?_)⟩;rw [aw,← Frame.raise_atR];simp [stepG.apply,aF]
 ·exact h.elim
end ops
def ja (P:Program) (ops:Array Oper) (Q:hb→Act→World→Prop):List Nat→Act→World→Prop
 | [],a,w=>Q .normal a w
 | i::rest,a,w=>
  match ops[i]? with
  | none=>ja P ops Q rest a w
  | some o=>
   if Region.wanted o (yielded ops a.tmps) then
    gJ o=true∧pv P ((execOp a.eval o).run P w) fun
     | .returned v,w'=>ja P ops Q rest (a.put o.dst v) w'
     | .panicked dF,w'=>Q (.panic dF) a w'
     | .outgrown,_=>False
   else ja P ops Q rest (a.put o.dst undef) w
theorem Ja {P:Program} {ops:Array Oper} {Q:hb→Act→World→Prop} (b:Frame) (k:List Item) (cs:List Frame) (l:List Nat) :
  ∀ (a:Act) (w:World),ja P ops Q l a w→∃ e da w',Q e da w'∧qh P (lone (b.atR a (.inRegion ops l::k)) cs w) b k cs e da w':=by
 induction l with
 | nil=>exact fun a w h=>⟨.normal,a,w,h,.one stepR_region_end⟩
 | cons i rest a6=>
  intro a w h;simp only [ja] at h;cases ah:ops[i]? with
  | none=>
   simp only [ah] at h;obtain ⟨e,da,w',bq,f'⟩:=a6 a w h;have au:=stepR_op_skip (P:=P) (b:=b) (a:=a) (k:=k) (cs:=cs) (w:=w) (ops:=ops) (i:=i) (rest:=rest) (by simp [ah]);simp only [ah,Option.bind_none,Act.put] at au;exact ⟨e,da,w',bq,.of_steps (.one au) f'⟩
  | some o=>
   simp only [ah] at h;by_cases hw:Region.wanted o (yielded ops a.tmps)=true
   ·simp only [hw,if_true] at h
    obtain ⟨e,w',ed,aI⟩:=Qd (b:=b) (k:=k) (cs:=cs) (rest:=rest) ah hw h.1 h.2;cases e with
    | returned v=>
     obtain ⟨e,da,me,bq,f'⟩:=a6 _ _ ed;exact ⟨e,da,me,bq,.of_steps aI f'⟩
    | panicked dF=>exact ⟨.panic dF,a,w',ed,aI⟩
    | outgrown=>exact aI.elim
   ·simp only [hw,if_false,ad4] at h
    obtain ⟨e,da,w',bq,f'⟩:=a6 _ _ h;have au:=stepR_op_skip (P:=P) (b:=b) (a:=a) (k:=k) (cs:=cs) (w:=w) (ops:=ops) (i:=i) (rest:=rest)
     (by simp [ah];simpa using hw)
    simp only [ah,ah2] at au;exact ⟨e,da,w',bq,.of_steps (.one au) f'⟩
theorem Qf {P:Program} {b:Frame} {id:Nat} {ops:Array Oper} {Q:hb→Act→World→Prop} {a:Act} {w:World}
  (h:ja P ops Q (ae7 ops.size) a w):jT P b (.region id ops false) Q a w:=
 fun k cs=>let ⟨e,da,w',q,r⟩:=Ja b k cs _ a w h;⟨e,da,w',q,.of_steps (.one stepR_region) r⟩
theorem Qg {P:Program} {b:Frame} {id:Nat} {ops:Array Oper} {Q:hb→Act→World→Prop} {a:Act} {w:World}
  (h:∀ t,ja P ops Q (Region.schedule (P.follows .mixedOrders) ops t) a { w with drawn:=w.drawn+1 }):jT P b (.region id ops true) Q a w:=
 fun k cs=>let ⟨e,da,w',q,r⟩:=Ja b k cs _ a _ (h _);⟨e,da,w',q,.of_steps (.one stepR_region_draw) r⟩
def hq (w:World):List Nat→World
 | []=>w
 | d::cc=>hq { w with heap:=w.heap.setIfInBounds d (.deferred none) } cc
def marksOf (cc:List Nat):List Deferred:=cc.map fun d=>{ target := .collected d,args := #[] }
theorem EI {P:Program} {cs:List Frame}:∀ (cc:List Nat) (hg:Frame) (w:World),hg.mode ≠ .run→hg.defers=marksOf cc →
  (∀ d∈cc,w.heap[d]? = some (.deferred (some [])))→cc.Nodup→Steps P (lone hg cs w) (lone { hg with defers:=[] } cs (hq w cc)):=by
 intro cc
 induction cc with
 | nil=>
  intro hg w _ ax _ _;have:({ hg with defers:=[] }:Frame)=hg:=by cases hg;simp_all [marksOf]
  rw [this];exact .refl P _
 | cons d cc a6=>
  intro hg w hm ax aq az;have ni:w.heap[d]? = some (.deferred (some [])):=aq d (i7 ..);have aN:(Instr.takeDeferred d).run P w = .ok [] { w with heap:=w.heap.setIfInBounds d (.deferred none) }:=by
   unfold Instr.takeDeferred;simp only [aa',getObj,setObj,at6,ni,Result.andThen];rfl
  have U:step P (lone hg cs w) = .next (lone { hg with defers:=marksOf cc } cs { w with heap:=w.heap.setIfInBounds d (.deferred none) }):=by
   refine step_lone_go ?_;cases vx:hg.mode with
   | run=>exact absurd vx hm
   | returning=>simp [stepG,unwind,vx,ax,marksOf,ar9,aN]
   | panicking chain=>simp [stepG,unwind,vx,ax,marksOf,ar9,aN]
  have eY:=ap1.1 az;refine .head U (a6 { hg with defers:=marksOf cc } _ hm C ?_ eY.2);intro c6 cm;have cO:d≠c6:=fun e=>eY.1 (e ▸ cm)
  simp only [ae3,cO,if_false];exact aq c6 (i5 _ cm)
def Qh (P:Program) (fn:Func) (R:Ending→World→Prop):hb→Act→World→Prop
  | .normal,a,w | .ret,a,w=>∃ cc,a.defers=marksOf cc∧cc.Nodup∧(∀ d∈cc,w.heap[d]? = some (.deferred (some []))) ∧
      ∃ v,(results fn a.tmps).run P (hq w cc) = .ok v (hq w cc)∧R (.returned v) (hq w cc)
  | .panic dF,a,w=>∃ cc,a.defers=marksOf cc∧cc.Nodup∧(∀ d∈cc,w.heap[d]? = some (.deferred (some [])))∧R (.panicked dF) (hq w cc)
  | .exit _,_,_=>False
theorem Qi {P:Program} {f:FuncId} {fn:Func} {c:Code} {args:Array Value} {w:World} {R:Ending→World→Prop}
    (aZ:P.funcs[f]? = some fn) (aq:fn.body=some c)
    (h:∀ b:Frame,b.roundOf=none→(P.funcs[b.fn]?).isSome=true→jT P b c (Qh P fn R) { tmps:=args++ai9 (fn.ntmps-args.size) undef,defers:=[] } w) :
    sJ P f args w R:=by
  intro cs
  let b:Frame:={ (default:Frame) with fn:=f,kind := .normal,roundOf:=none }
  have sL:Frame.enter P f args .normal =
      b.atR { tmps:=args++ai9 (fn.ntmps-args.size) undef,defers:=[] } [.code c]:=by
    simp [Frame.enter,Frame.atR,aZ,aq,b]
  obtain ⟨e,da,w',bq,f'⟩:=h b rfl (by simp [b,aZ]) [] cs;rw [← sL] at f';cases e with
  | normal=>
    obtain ⟨cc,ax,az,lj,v,aF,ed⟩:=bq
    exact ⟨.returned v,_,_,⟨by simp,ed⟩,Steps.trans (Steps.trans f' (.one (stepR_end C)))
      (EI cc { b.atR da [] with mode := .returning } w' ba ax lj az),rfl,rfl,rfl,rfl,fn,aZ,aF⟩
  | ret=>
    obtain ⟨cc,ax,az,lj,v,aF,ed⟩:=bq;obtain ⟨k₁,au⟩:=f'
    exact ⟨.returned v,_,_,⟨by simp,ed⟩,Steps.trans (Steps.trans au (.one (stepR_ret C)))
      (EI cc { b.atR da (.code .ret::k₁) with mode := .returning } w' ba ax lj az),rfl,rfl,rfl,rfl,fn,aZ,aF⟩
  | panic dF=>
    obtain ⟨cc,ax,az,lj,ed⟩:=bq;obtain ⟨k₁,au⟩:=f';exact ⟨.panicked dF,_,_,⟨by simp,ed⟩,Steps.trans au (EI cc { b.atR da k₁ with mode := .panicking dF } w' ba ax lj az),rfl,rfl,rfl,fn,aZ⟩
  | exit id=>exact bq.elim
def Qj (P:Program) (l:Nat) (R:Ending→World→Prop):hb→Act→World→Prop
 | .normal,_,w=>∃ v w',(Instr.endRound l none).run P w = .ok v w'∧R (.returned v) w'
 | .ret,_,w=>∃ v w',(Instr.endRound l (some .ret)).run P w = .ok v w'∧R (.returned v) w'
 | .exit id,_,w=>∃ v w',(Instr.endRound l (some (.exit id))).run P w = .ok v w'∧R (.returned v) w'
 | .panic dF,a,w=>a.defers=[]∧R (.panicked dF) w
theorem Qk {P:Program} {l:Nat} {f:FuncId} {fn:Func} {tmps:Array Value} {hf body:Code} {w:World} {R:Ending→World→Prop}
  (aZ:P.funcs[f]? = some fn)
  (h:∀ b:Frame,b.roundOf=some l→b.fn=f→jT P b hf (hb.andThen (fun iM w₁=>∃ hM,(Instr.beginRound l).run P w₁ = .ok () hM∧jT P b body (Qj P l R) iM hM) (fun _ _ _=>False))
   { tmps:=tmps,defers:=[] } w):Round P l f tmps hf body w R:=by
 intro c cs
 let b:Frame:={ (default:Frame) with fn:=f,kind := .normal,roundOf:=some l }
 have rC:Frame.round l f tmps hf body .normal=b.atR { tmps:=tmps,defers:=[] } [.code hf,.beginRound,.code body]:=by
  simp [Frame.round,Frame.atR,b]
 obtain ⟨e,iM,w₁,bq,f'⟩:=h b rfl rfl [.beginRound,.code body] (c::cs);rw [← rC] at f';by_cases he:e = .normal
 ·subst he
  obtain ⟨hM,h7,sM⟩:=bq;have s1:=Steps.one (stepR_beginRound (P:=P) (b:=b) (a:=iM) (k:=[.code body]) (cs:=c::cs) C h7);obtain ⟨zj,BY,iN,ua,ub⟩:=sM [] (c::cs);cases zj with
  | normal=>
   obtain ⟨v,lK,uc,ed⟩:=ua;exact ⟨.returned v,lK,ed,(Steps.trans f' s1).trans (Steps.trans ub (.one (stepR_round_end C C uc)))⟩
  | ret=>
   obtain ⟨v,lK,uc,ed⟩:=ua;obtain ⟨k₁,au⟩:=ub;exact ⟨.returned v,lK,ed,(Steps.trans f' s1).trans (Steps.trans au (.one (stepR_round_ret C C uc)))⟩
  | exit id=>
   obtain ⟨v,lK,uc,ed⟩:=ua;obtain ⟨k₁,aD,au⟩:=ub.2 rfl;exact ⟨.returned v,lK,ed,(Steps.trans f' s1).trans (Steps.trans au (.one (stepR_round_exit C C aD uc)))⟩
  | panic dF=>
   obtain ⟨ax,ed⟩:=ua;obtain ⟨k₁,au⟩:=ub;refine ⟨.panicked dF,iN,ed,(Steps.trans f' s1).trans (Steps.trans au (.one ?_))⟩;exact step_lone_go (by simp [stepG,unwind,Frame.catches,Frame.atR,ax,b,aZ])
 ·cases e<;>first|exact absurd C he|exact bq.elim
end Go.cW
namespace Go.cW
inductive bM where
 | nil
 | clip
 | bc
 | own (b:Nat)
 deriving DecidableEq
inductive af where
 | any
 | bool (b:Bool)
 | int (k:IntKind) (n:Int)
 | str (s:List UInt8)
 | qk
 | ptr (b o:Nat)
 | bA (cells:List af) (off:Nat)
 | mf (b:Nat) (cells:List af)
 | aC (sz:Nat) (xs:List af) (own:bM)
 | BZ (b n:Nat)
 | sN
 | map (b:Nat)
 | func (f:FuncId) (first cap:List af)
 | hB (v:Value)
 | ud
 | iface (t:TypeId) (v:af)
 | nR
 | agg (cells:List af)
 | cu (vs:List af)
abbrev bT:=Nat→Nat→Prop
def flat (vs:List Value):List Value:=vs.flatMap fun v=>v.cells.toList
def vy (w:World) (p:bT) (b o:Nat) (vs:List Value):Prop:=∀ i v,vs[i]? = some v→p b (o+i)∧w.cell? ⟨b,o+i,none⟩=some v
def _root_.Go.World.kU (w:World) (r:Nat):Option (TypeId×Nat):=
 match w.heap[r]? with
 | some (.cells c elem (0,0))=>some (elem,c.size)
 | _=>none
mutual
inductive Rel (w:World) (p:bT):Value→af→Prop
 | any (v:Value):Rel w p v .any
 | bool (b:Bool):Rel w p (.bool b) (.bool b)
 | int (k:IntKind) (n:Int):Rel w p (.int k n) (.int k n)
 | str (b:ByteArray) (s:List UInt8) (h:b.data.toList=s):Rel w p (.string b) (.str s)
 | qk:Rel w p (.pointer none) .qk
 | ptr (b o:Nat):Rel w p (.pointer (some ⟨b,o,none⟩)) (.ptr b o)
 | bA (b base o off:Nat) (vs:List Value) (cells:List af) (ah:o=base+off) (aA:vy w p b base vs) (aF:bF w p vs cells) :
   Rel w p (.pointer (some ⟨b,o,none⟩)) (.bA cells off)
 | mf (b:Nat) (vs:List Value) (cells:List af) (az:vs≠[]) (au:∃ x,w.kU b=some x) (aA:vy w p b 0 vs) (aF:bF w p vs cells):Rel w p (.pointer (some ⟨b,0,none⟩)) (.mf b cells)
 | hY (sz:Nat) (own:bM) (h:∀ b,own ≠ .own b):Rel w p (.slice none 0 0) (.aC sz [] own)
 | iA (a:Addr) (sz:Nat) (own:bM) (h:own = .bc∨own = .clip):Rel w p (.slice (some a) 0 0) (.aC sz [] own)
 | aC (g off n cap sz:Nat) (vs:List Value) (xs:List af) (own:bM) (az:own ≠ .nil) (aB:n=xs.length) (aA:vy w p g off (flat vs)) (aF:bF w p vs xs)
   (au:∀ v∈vs,v.cells.size=sz) (hm:n≤9223372036854775807) (aD:n≤cap) (ct:own = .clip→cap=n)
   (ah:∀ b,own = .own b→b=g∧off=0∧∃ e,w.kU g=some (e,cap*sz)):Rel w p (.slice (some ⟨g,off,none⟩) n cap) (.aC sz xs own)
 | BZ (b n cap:Nat) (hm:n≤9223372036854775807) (aD:n≤cap):Rel w p (.slice (some ⟨b,0,none⟩) n cap) (.BZ b n)
 | sN:Rel w p (.map none) .sN
 | map (b:Nat):Rel w p (.map (some b)) (.map b)
 | func (f:FuncId) (as cs:Array Value) (first cap:List af) (a8:bF w p as.toList first) (aA:bF w p cs.toList cap):Rel w p (.func (.func f) as cs) (.func f first cap)
 | hB (v:Value):Rel w p v (.hB v)
 | ud:Rel w p .nilFunc .ud
 | iface (t:TypeId) (v:Value) (x:af) (h:Rel w p v x):Rel w p (.iface t v) (.iface t x)
 | nR:Rel w p .nilIface .nR
 | agg (cs:Array Value) (xs:List af) (h:bF w p cs.toList xs):Rel w p (.agg cs) (.agg xs)
 | cu (vs:Array Value) (xs:List af) (h:bF w p vs.toList xs):Rel w p (.tuple vs) (.cu xs)
inductive bF (w:World) (p:bT):List Value→List af→Prop
 | nil:bF w p [] []
 | cons (v:Value) (x:af) (vs:List Value) (xs:List af) (h:Rel w p v x) (t:bF w p vs xs):bF w p (v::vs) (x::xs)
end
structure de (w:World) (p:bT) (w':World) (bk:bT):Prop where
 os:w'.os=w.os
 tape:w'.tape=w.tape
 output:w'.output=w.output
 size:w.heap.size≤w'.heap.size
 lk:∀ b o,p b o→bk b o
 same:∀ b o,p b o→w'.cell? ⟨b,o,none⟩=w.cell? ⟨b,o,none⟩
 shape:∀ b x,w.kU b=some x→w'.kU b=some x
theorem de.refl (w:World) (p:bT):de w p w p:=⟨rfl,rfl,rfl,i0 _,fun _ _ h=>h,fun _ _ _=>rfl,fun _ _ h=>h⟩
theorem de.trans {w w₁ hM:World} {p p₁ jo:bT} (h:de w p w₁ p₁) (k:de w₁ p₁ hM jo):de w p hM jo:=
 ⟨k.os.trans h.os,k.tape.trans h.tape,k.output.trans h.output,ai' h.size k.size,fun b o aE=>k.lk b o (h.lk b o aE),
  fun b o aE=>(k.same b o (h.lk b o aE)).trans (h.same b o aE),fun b x ab=>k.shape b x (h.shape b x ab)⟩
theorem vy.mono {w w':World} {p bk:bT} (hle:de w p w' bk) {b o:Nat} {vs:List Value} (h:vy w p b o vs):vy w' bk b o vs:=
 fun i v av=>let ⟨U,ae⟩:=h i v av;⟨hle.lk _ _ U,(hle.same _ _ U).trans ae⟩
mutual
theorem Rel.mono {w w':World} {p bk:bT} (hle:de w p w' bk) {v:Value} {x:af} (h:Rel w p v x):Rel w' bk v x:=by
 cases h with
 | any v=>exact .any v
 | bool b=>exact .bool b
 | int k n=>exact .int k n
 | str b s h=>exact .str b s h
 | qk=>exact .qk
 | ptr b o=>exact .ptr b o
 | bA b base o off vs cells ah aA aF=>exact .bA b base o off vs cells ah (aA.mono hle) (aF.mono hle)
 | mf b vs cells az au aA aF=>exact .mf b vs cells az (au.imp fun x h=>hle.shape _ _ h) (aA.mono hle) (aF.mono hle)
 | hY sz own h=>exact .hY sz own h
 | iA a sz own h=>exact .iA a sz own h
 | aC g off n cap sz vs xs own az aB aA aF au hm aD ct ah=>
  exact .aC g off n cap sz vs xs own az aB (aA.mono hle) (aF.mono hle) au hm aD ct (fun b aq=>let ⟨U,ae,e,an⟩:=ah b aq;⟨U,ae,e,hle.shape _ _ an⟩)
 | BZ b n cap hm aD=>exact .BZ b n cap hm aD
 | sN=>exact .sN
 | map b=>exact .map b
 | func f as cs first cap a8 aA=>exact .func f as cs first cap (a8.mono hle) (aA.mono hle)
 | hB v=>exact .hB v
 | ud=>exact .ud
 | iface t v x h=>exact .iface t v x (h.mono hle)
 | nR=>exact .nR
 | agg cs xs h=>exact .agg cs xs (h.mono hle)
 | cu vs xs h=>exact .cu vs xs (h.mono hle)
theorem bF.mono {w w':World} {p bk:bT} (hle:de w p w' bk) {vs:List Value} {xs:List af} (h:bF w p vs xs):bF w' bk vs xs:=by
 cases h with
 | nil=>exact .nil
 | cons v x vs xs h t=>exact .cons v x vs xs (h.mono hle) (t.mono hle)
end
section Ql
variable {w:World} {p:bT}
theorem bF.length {vs:List Value} {xs:List af} (h:bF w p vs xs):vs.length=xs.length:=by
 induction vs generalizing xs with
 | nil=>cases h;rfl
 | cons v vs a6=>cases h with|cons _ x _ xs h t=>simp [a6 t]
theorem bF.get {vs:List Value} {xs:List af} (h:bF w p vs xs) {i:Nat} {x:af} (ab:xs[i]? = some x):∃ v,vs[i]? = some v∧Rel w p v x:=by
 induction vs generalizing xs i with
 | nil=>cases h;simp at ab
 | cons v vs a6=>
  cases h with
  | cons _ y _ ys h t=>
   cases i with
   | zero=>simp at ab;subst ab;exact ⟨v,rfl,h⟩
   | succ i=>simp at ab;obtain ⟨u,U,ae⟩:=a6 t ab;exact ⟨u,by simpa using U,ae⟩
theorem bF.append {vs us:List Value} {xs ys:List af} (h:bF w p vs xs) (k:bF w p us ys):bF w p (vs++us) (xs++ys):=by
 induction vs generalizing xs with
 | nil=>cases h;exact k
 | cons v vs a6=>cases h with|cons _ x _ xs h t=>exact .cons _ _ _ _ h (a6 t)
theorem bF.take {vs:List Value} {xs:List af} (h:bF w p vs xs) (n:Nat):bF w p (vs.take n) (xs.take n):=by
  induction vs generalizing xs n with
  | nil=>cases h;simp;exact .nil
  | cons v vs a6=>
    cases h with
    | cons _ x _ xs h t=>cases n with
      | zero=>exact .nil
      | succ n=>exact .cons _ _ _ _ h (a6 t n)
theorem bF.drop {vs:List Value} {xs:List af} (h:bF w p vs xs) (n:Nat):bF w p (vs.drop n) (xs.drop n):=by
  induction vs generalizing xs n with
  | nil=>cases h;simp;exact .nil
  | cons v vs a6=>
    cases h with
    | cons _ x _ xs h t=>cases n with
      | zero=>exact .cons _ _ _ _ h t
      | succ n=>exact a6 t n
theorem bF.set {vs:List Value} {xs:List af} (h:bF w p vs xs) (i:Nat) {v:Value} {x:af} (av:Rel w p v x):bF w p (vs.set i v) (xs.set i x):=by
  induction vs generalizing xs i with
  | nil=>cases h;exact .nil
  | cons u vs a6=>
    cases h with
    | cons _ y _ ys h t=>cases i with
      | zero=>exact .cons _ _ _ _ av t
      | succ i=>exact .cons _ _ _ _ h (a6 t i)
theorem bF.replicate {v:Value} {x:af} (h:Rel w p v x) (n:Nat):bF w p (t7 n v) (t7 n x):=by
 induction n with
 | zero=>exact .nil
 | succ n a6=>exact .cons _ _ _ _ h a6
end Ql
abbrev Env:=List (Nat×af)
def Env.get? : Env→Nat→Option af
 | [],_=>none
 | (t,v)::e,n=>if ac' t n then some v else Env.get? e n
inductive dG where
 | box (t:TypeId) (cells:List af)
 | row (t:TypeId) (sz n:Nat)
 | map (es:List (af×af))
 | ll (es:List (af×af)) (it:Nat) (left:List (af×af)) (cur:Option (af×af))
 | tick (m:Nat)
 | loop (r:Loop) (env:Env)
abbrev ao:=Nat→Option dG
def lL (w:World) (p:bT) (cM:List MapEntry) (es:List (af×af)):Prop:=
 bF w p (cM.map (·.key)) (es.map (·.1))∧bF w p (cM.map (·.val)) (es.map (·.2))
def ql (w:World) (p:bT) (b:Nat):dG→Prop
  | .box t cs=>∃ vs:Array Value,w.heap[b]? = some (.cells vs t (0,0))∧bF w p vs.toList cs∧∀ o,¬ p b o
  | .row t sz n=>∃ cur:Array Value,w.heap[b]? = some (.cells cur t (0,0))∧n*sz≤cur.size∧(∃ cap,cur.size=cap*sz)∧∀ o,p b o↔o<n*sz
  | .map es=>∃ cM clock,w.heap[b]? = some (.map cM clock)∧lL w p cM.toList es∧(∀ e∈cM.toList,e.born<clock)∧(cM.toList.map (·.born)).Nodup
  | .ll es it left cur=>∃ (cM:Array MapEntry) (clock:Nat) (seen:Array Nat),w.heap[b]? = some (.map cM clock)∧w.heap[it]? = some (.mapIter (some b) clock seen clock)∧lL w p cM.toList es ∧
      (∀ e∈cM.toList,e.born<clock)∧(cM.toList.map (·.born)).Nodup∧lL w p (cM.toList.filter fun e => !seen.contains e.born) left ∧
      ∀ k v,cur=some (k,v)→∃ Jb e,seen.back? = some Jb∧cM.find? (·.born==Jb)=some e∧Rel w p e.key k∧Rel w p e.val v
  | .tick m=>∃ since seen last,w.heap[b]? = some (.mapIter (some m) since seen last)
  | .loop r env=>w.heap[b]? = some (.loop r)∧∀ t v,env.get? t=some v→Rel w p (r.tmps.getD t undef) v
structure dq (w:World) (p:bT) (s:ao):Prop where
 obj:∀ b o,s b=some o→ql w p b o
 lt:∀ b o,p b o→b<w.heap.size
theorem ql.qm {w w':World} {p bk:bT} {b it:Nat} {es left:List (af×af)} {cur:Option (af×af)} (h:ql w p b (.ll es it left cur)) (hle:de w p w' bk) (aq:w'.heap[b]? = w.heap[b]?) (aQ:w'.heap[it]? = w.heap[it]?) :
  ql w' bk b (.ll es it left cur):=by
 obtain ⟨cM,clock,seen,U,ae,an,bd,bD,fk,ij⟩:=h;exact ⟨cM,clock,seen,aq.trans U,aQ.trans ae,⟨an.1.mono hle,an.2.mono hle⟩,bd,bD,⟨fk.1.mono hle,fk.2.mono hle⟩,fun k v aA=>let ⟨st,e,di,a2,a3,a4⟩:=ij k v aA;⟨st,e,di,a2,a3.mono hle,a4.mono hle⟩⟩
theorem ql.zm {w:World} {p:bT} {b it d:Nat} {es left:List (af×af)} {cur:Option (af×af)} (h:ql w p b (.ll es it left cur)) {o:Obj} (ax:w.heap[d]? = some o) (ah:∀ m a s l,o ≠ .mapIter m a s l):it≠d:=by
 obtain ⟨cM,clock,seen,U,ae,an⟩:=h;intro e;subst e;rw [ax] at ae;cases ae;exact ah _ _ _ _ C
structure Kept (s al:ao) (w:World) (p:bT) (w':World) (bk:bT):Prop where
 heap:∀ b,b<w.heap.size→s b=none→w'.heap[b]? = w.heap[b]?
 kV:∀ b,b<w.heap.size→s b=none→al b=none
 lk:∀ b o,b<w.heap.size→s b=none→bk b o→p b o
theorem Kept.refl (s:ao) (w:World) (p:bT):Kept s s w p w p:=⟨fun _ _ _=>rfl,fun _ _ h=>h,fun _ _ _ _ h=>h⟩
theorem Kept.trans {s s₁ dN:ao} {w w₁ hM:World} {p p₁ jo:bT} (au:w.heap.size≤w₁.heap.size) (h:Kept s s₁ w p w₁ p₁) (k:Kept s₁ dN w₁ p₁ hM jo):Kept s dN w p hM jo:=
  ⟨fun b aq az=>(k.heap b (ai7 aq au) (h.kV b aq az)).trans (h.heap b aq az),
   fun b aq az=>k.kV b (ai7 aq au) (h.kV b aq az),
   fun b o aq az aE=>h.lk b o aq az (k.lk b o (ai7 aq au) (h.kV b aq az) aE)⟩
def xJ:Value→Option af
 | .bool b=>some (.bool b)
 | .int k n=>some (.int k n)
 | .string s=>some (.str s.data.toList)
 | .pointer none=>some .qk
 | .slice none 0 0=>some (.aC 0 [] .nil)
 | .map none=>some .sN
 | .nilFunc=>some .ud
 | .nilIface=>some .nR
 | .tuple vs=>if vs.isEmpty then some (.cu []) else none
 | _=>none
def aL (env:Env):Operand→Option af
 | .tmp t=>env.get? t
 | .const v=>xJ v
 | .func f=>some (.func f [] [])
 | .global _=>none
theorem EJ {w:World} {p:bT} {v:Value} {x:af} (h:xJ v=some x):Rel w p v x:=by
 unfold xJ at h;split at h<;>first|(cases h;done)|(cases h;first|exact .bool _|exact .int _ _|exact .str _ _ C|exact .qk|exact .hY _ _ (fun _=>by simp)|exact .sN|exact .ud|exact .nR)|skip
 rename_i vs;split at h
 ·rename_i he
  cases h;have:vs = #[]:=by simpa using he
  subst this;exact .cu _ _ .nil
 ·cases h
abbrev fP:=Nat×List Deferred
structure dz (N:Nat) (B:fP) (ro:Option Nat) (env:Env) (s:ao) (a:Act) (w:World) (p:bT):Prop where
 size:a.tmps.size=N
 env:∀ t v,env.get? t=some v→Rel w p (a.tmps.getD t undef) v
 wf:dq w p s
 defs:∃ cc,a.defers=marksOf cc++B.2∧cc.Nodup∧∀ d∈cc,B.1≤d∧w.heap[d]? = some (.deferred (some []))∧s d=none
 round:∀ l,ro=some l→a.defers=[]∧(∃ r,w.heap[l]? = some (.loop r))∧s l=none
 base:B.1≤w.heap.size
theorem dz.aL {N:Nat} {B:fP} {ro:Option Nat} {env:Env} {s:ao} {a:Act} {w:World} {p:bT} (h:dz N B ro env s a w p) {o:Operand} {x:af} (ab:aL env o=some x) :
  Rel w p (a.eval o) x:=by
 cases o with
 | tmp t=>exact h.env t x ab
 | const v=>exact EJ ab
 | func f=>simp [cW.aL] at ab;subst ab;exact .func f #[] #[] [] [] .nil .nil
 | global g=>simp [cW.aL] at ab
theorem dz.step {N:Nat} {B:fP} {ro:Option Nat} {env:Env} {s al:ao} {a:Act} {w w':World} {p bk:bT} (h:dz N B ro env s a w p)
  (hle:de w p w' bk) (aD:Kept s al w p w' bk) (cd:dq w' bk al):dz N B ro env al a w' bk:=by
 obtain ⟨cc,U,ae,an⟩:=h.defs;refine ⟨h.size,fun t v av=>(h.env t v av).mono hle,cd,⟨cc,U,ae,fun d ax=>?_⟩,fun l aB=>?_,ai' h.base hle.size⟩
 ·obtain ⟨cH,ni,au⟩:=an d ax
  have ar:d<w.heap.size:=(i9.1 ni).1;exact ⟨cH,(aD.heap d ar au).trans ni,aD.kV d ar au⟩
 ·obtain ⟨ax,⟨r,aF⟩,au⟩:=h.round l aB
  have ar:l<w.heap.size:=(i9.1 aF).1;exact ⟨ax,⟨r,(aD.heap l ar au).trans aF⟩,aD.kV l ar au⟩
theorem dz.put {N:Nat} {B:fP} {ro:Option Nat} {env:Env} {s:ao} {a:Act} {w:World} {p:bT} (h:dz N B ro env s a w p) {d:Nat} (ax:d<N) {v:Value} {x:af}
  (av:Rel w p v x):dz N B ro ((d,x)::env) s (a.put (some d) v) w p:=by
 refine ⟨by simp [Act.put,h.size],fun t y ay=>?_,h.wf,h.defs,h.round,h.base⟩;simp only [Env.get?] at ay;split at ay
 ·rename_i he
  have vz:d=t:=ac1 he;cases ay;subst vz;have cm:d<a.tmps.size:=h.size.symm ▸ ax;simpa [Act.put,ad8,ae3,cm] using av
 ·rename_i he
  have vz:d≠t:=fun e=>he (by subst e;simp)
  have:=h.env t y ay;simpa [Act.put,ad8,ae3,vz] using this
inductive b8 where
 | normal
 | exit (id:Nat)
 | ret
 | panic (v:af)
def xK (v:Value) (dF:List PanicEntry):Prop:=∃ rest,dF={ v,recovered:=false }::rest∧∀ e∈rest,e.goexit=false
theorem xK.one (v:Value):xK v [{ v,recovered:=false }]:=⟨[],rfl,fun _ h=>by cases h⟩
inductive xL (w:World) (p:bT):hb→b8→Prop
 | normal:xL w p .normal .normal
 | exit (id:Nat):xL w p (.exit id) (.exit id)
 | ret:xL w p .ret .ret
 | panic (v:Value) (x:af) (dF:List PanicEntry) (aA:xK v dF) (h:Rel w p v x):xL w p (.panic dF) (.panic x)
def ku (N:Nat) (B:fP) (ro:Option Nat) (s:ao) (w:World) (p:bT) (Q:b8→Env→ao→Prop) (e:hb) (da:Act) (w':World):Prop:=
 ∃ x eT al bk,xL w' bk e x∧Q x eT al∧dz N B ro eT al da w' bk∧de w p w' bk∧Kept s al w p w' bk
theorem ku.after {N:Nat} {B:fP} {ro:Option Nat} {s s₁:ao} {w w₁ w':World} {p p₁:bT} {Q:b8→Env→ao→Prop} {e:hb} {da:Act}
  (hle:de w p w₁ p₁) (aD:Kept s s₁ w p w₁ p₁) (h:ku N B ro s₁ w₁ p₁ Q e da w'):ku N B ro s w p Q e da w' :=
 let ⟨x,eT,al,bk,U,ae,an,bd,bD⟩:=h
 ⟨x,eT,al,bk,U,ae,an,hle.trans bd,aD.trans hle.size bD⟩
def ad (P:Program) (N:Nat) (c:Code) (Q:b8→Env→ao→Prop) (env:Env) (s:ao):Prop:=
 ∀ (b:Frame) (B:fP) (a:Act) (w:World) (p:bT),(P.funcs[b.fn]?).isSome=true→dz N B b.roundOf env s a w p→jT P b c (ku N B b.roundOf s w p Q) a w
section Qm
variable {P:Program} {N:Nat} {Q:b8→Env→ao→Prop} {env:Env} {s:ao}
theorem ad.mono {c:Code} {oJ:b8→Env→ao→Prop} (h:ad P N c Q env s) (bq:∀ e env s,Q e env s→oJ e env s):ad P N c oJ env s:=
 fun b B a w p eZ aI=>mc (h b B a w p eZ aI) fun _ _ _ ⟨x,eT,al,bk,U,ae,an⟩=>⟨x,eT,al,bk,U,bq _ _ _ ae,an⟩
theorem ku.here {B:fP} {ro:Option Nat} {a:Act} {w:World} {p:bT} {e:hb} {x:b8} (ab:xL w p e x) (bq:Q x env s) (h:dz N B ro env s a w p) :
  ku N B ro s w p Q e a w:=⟨x,env,s,p,ab,bq,h,.refl w p,.refl s w p⟩
theorem ad.skip (h:Q .normal env s):ad P N .skip Q env s:=fun _ _ _ _ _ _ aI=>P8 (.here .normal h aI)
theorem ad.ret (h:Q .ret env s):ad P N .ret Q env s:=fun _ _ _ _ _ _ aI=>P9 (.here .ret h aI)
theorem ad.exit {id:Nat} (h:Q (.exit id) env s):ad P N (.exit id) Q env s:=fun _ _ _ _ _ _ aI=>P' (.here (.exit id) h aI)
def b8.andThen (next:Env→ao→Prop) (Q:b8→Env→ao→Prop):b8→Env→ao→Prop
 | .normal,e,s=>next e s
 | x,e,s=>Q x e s
theorem ad.seq {x y:Code} (h:ad P N x (b8.andThen (ad P N y Q) Q) env s):ad P N (.seq x y) Q env s:=by
 intro b B a w p eZ aI;refine Qa (mc (h b B a w p eZ aI) ?_);rintro e iM w₁ ⟨B0,oK,s₁,p₁,ab,bq,ln,hle,aD⟩;cases ab with
 | normal=>exact mc (bq b B iM w₁ p₁ eZ ln) fun _ _ _ h=>h.after hle aD
 | exit id=>exact ⟨_,oK,s₁,p₁,.exit id,bq,ln,hle,aD⟩
 | ret=>exact ⟨_,oK,s₁,p₁,.ret,bq,ln,hle,aD⟩
 | panic v x dF aA av=>exact ⟨_,oK,s₁,p₁,.panic v x dF aA av,bq,ln,hle,aD⟩
theorem B1 {w:World} {p:bT} {v:Value} {t:Bool} (h:Rel w p v (.bool t)):v = .bool t:=by cases h;rfl
theorem ad.cond {c:Operand} {x y:Code} {t:Bool} (aA:aL env c=some (.bool t)) (aN:t=true→ad P N x Q env s) (aZ:t=false→ad P N y Q env s) :
  ad P N (.cond c x y) Q env s:=by
 intro b B a w p eZ aI;refine Qb (B1 (aI.aL aA)) ?_;cases t
 ·exact aZ C b B a w p eZ aI
 ·exact aN C b B a w p eZ aI
theorem ad.e8 {c:Operand} {x y:Code} (aA:aL env c=some (.bool true)) (h:ad P N x Q env s):ad P N (.cond c x y) Q env s:=ad.cond aA (fun _=>h) ba
theorem ad.gr {c:Operand} {x y:Code} (aA:aL env c=some (.bool false)) (h:ad P N y Q env s):ad P N (.cond c x y) Q env s:=ad.cond aA ba (fun _=>h)
def b8.inBlock (id:Nat) (Q:b8→Env→ao→Prop):b8→Env→ao→Prop
 | .exit kT,a,w=>if ac' kT id then Q .normal a w else Q (.exit kT) a w
 | e,a,w=>Q e a w
theorem ad.block {id:Nat} {c:Code} (h:ad P N c (b8.inBlock id Q) env s):ad P N (.block id c) Q env s:=by
 intro b B a w p eZ aI;refine Qc (mc (h b B a w p eZ aI) ?_);rintro e iM w₁ ⟨B0,oK,s₁,p₁,ab,bq,ln,hle,aD⟩;cases ab with
 | normal=>exact ⟨_,oK,s₁,p₁,.normal,bq,ln,hle,aD⟩
 | exit kT=>
  by_cases sI:kT=id
  ·simp only [b8.inBlock,sI,aq',if_true] at bq
   simp only [hb.inBlock,sI,if_true];exact ⟨_,oK,s₁,p₁,.normal,bq,ln,hle,aD⟩
  ·have aq:ac' kT id=false:=by
    cases Qn:ac' kT id with
    | false=>rfl
    | true=>exact absurd (ac1 Qn) sI
   simp only [b8.inBlock,aq,if_false,ad4] at bq;simp only [hb.inBlock,sI,if_false];exact ⟨_,oK,s₁,p₁,.exit kT,bq,ln,hle,aD⟩
 | ret=>exact ⟨_,oK,s₁,p₁,.ret,bq,ln,hle,aD⟩
 | panic v x dF aA av=>exact ⟨_,oK,s₁,p₁,.panic v x dF aA av,bq,ln,hle,aD⟩
def aS (x y:af):Prop:=∀ w p v,Rel w p v x→Rel w p v y
theorem aS.refl (x:af):aS x x:=fun _ _ _ h=>h
def Env.Sub:Env→Env→Prop
 | [],_=>True
 | (t,v)::e,env=>(∃ fz,env.get? t=some fz∧aS fz v)∧Env.Sub e env
theorem Env.Sub.get {e env:Env} (h:Env.Sub e env) {t:Nat} {v:af} (av:e.get? t=some v):∃ fz,env.get? t=some fz∧aS fz v:=by
 induction e with
 | nil=>simp [Env.get?] at av
 | cons x e a6=>
  obtain ⟨bH,fz⟩:=x;simp only [Env.get?] at av;split at av
  ·rename_i he
   have vz:bH=t:=ac1 he;cases av;subst vz;exact h.1
  ·exact a6 h.2 av
theorem dz.sub {B:fP} {ro:Option Nat} {e:Env} {a:Act} {w:World} {p:bT} (au:Env.Sub e env) (h:dz N B ro env s a w p):dz N B ro e s a w p:=
 ⟨h.size,fun t v av=>let ⟨fz,U,ae⟩:=au.get av;ae _ _ _ (h.env t fz U),h.wf,h.defs,h.round,h.base⟩
theorem ad.sub {c:Code} (e:Env) (au:Env.Sub e env) (h:ad P N c Q e s):ad P N c Q env s:=
 fun b B a w p eZ aI=>h b B a w p eZ (aI.sub au)
def ao.Sub (al s:ao):Prop:=∀ b,al b=s b∨al b=none
theorem dq.sub {al:ao} {w:World} {p:bT} (au:ao.Sub al s) (h:dq w p s):dq w p al :=
 ⟨fun b o aq=>h.obj b o (by rcases au b with e|e<;>simp_all),h.lt⟩
theorem ao.Sub.none {al:ao} (au:ao.Sub al s) {b:Nat} (h:s b=none):al b=none:=by rcases au b with e|e<;>simp_all
theorem Kept.xM {al eK:ao} (au:ao.Sub al s) {w w':World} {p bk:bT} (h:Kept al eK w p w' bk):Kept s eK w p w' bk :=
 ⟨fun b aq az=>h.heap b aq (au.none az),fun b aq az=>h.kV b aq (au.none az),fun b o aq az=>h.lk b o aq (au.none az)⟩
theorem dz.EK {B:fP} {ro:Option Nat} {al:ao} {a:Act} {w:World} {p:bT} (au:ao.Sub al s) (h:dz N B ro env s a w p):dz N B ro env al a w p:=by
 obtain ⟨cc,U,ae,an⟩:=h.defs;exact ⟨h.size,h.env,h.wf.sub au,⟨cc,U,ae,fun d ax=>let ⟨a,b,c⟩:=an d ax;⟨a,b,au.none c⟩⟩,fun l aB=>let ⟨a,b,c⟩:=h.round l aB;⟨a,b,au.none c⟩,h.base⟩
theorem ad.drop {c:Code} (al:ao) (au:ao.Sub al s) (h:ad P N c Q env al):ad P N c Q env s:=
 fun b B a w p eZ aI=>mc (h b B a w p eZ (aI.EK au)) fun _ _ _ ⟨x,eT,eK,bk,U,ae,an,bd,bD⟩=>⟨x,eT,eK,bk,U,ae,an,bd,bD.xM au⟩
theorem ad.loop {σ:Type} {c:Code} (E:σ→Env) (S:σ→ao) (acW:σ→Prop) (μ:σ→Nat) (nS:σ) (ak:acW nS) (dH:Env.Sub (E nS) env) (cj:ao.Sub (S nS) s)
  (round:∀ x,acW x→ad P N c (b8.andThen (fun eT al=>∃ y,acW y∧Env.Sub (E y) eT∧ao.Sub (S y) al∧μ y<μ x) Q) (E x) (S x)):ad P N (.loop c) Q env s:=by
 refine ad.sub _ dH (ad.drop _ cj ?_);intro b B a w p eZ aI;have key:∀ n x a w p,μ x=n→acW x→dz N B b.roundOf (E x) (S x) a w p→∀ k cs,∃ e da w',ku N B b.roundOf (S x) w p Q e da w' ∧
   qh P (lone (b.atR a (.code c :: .inLoop c::k)) cs w) b k cs e da w':=by
  intro n
  induction n using as1 with
  | _ n a6=>
   intro x a w p az ab aI k cs;obtain ⟨e,iM,w₁,⟨B0,oK,s₁,p₁,EL,bq,ln,hle,aD⟩,f'⟩:=round x ab b B a w p eZ aI (.inLoop c::k) cs;by_cases he:e = .normal
   ·subst he
    cases EL;obtain ⟨y,ay,hN,Jc,ar⟩:=bq;obtain ⟨zj,BY,hM,ua,ub⟩:=a6 (μ y) (az ▸ ar) y iM w₁ p₁ rfl ay ((ln.sub hN).EK Jc) k cs;refine ⟨zj,BY,hM,ku.after hle aD ?_,.of_steps (Steps.trans f' (.one stepR_inLoop)) ub⟩;obtain ⟨oL,eT,eK,bk,U,ae,an,bd,bD⟩:=ua;exact ⟨oL,eT,eK,bk,U,ae,an,bd,bD.xM Jc⟩
   ·have qi:ku N B b.roundOf (S x) w p Q e iM w₁:=by
     refine ⟨B0,oK,s₁,p₁,EL,?_,ln,hle,aD⟩;cases EL<;>first|exact absurd C he|exact bq
    exact ⟨e,iM,w₁,qi,qh.I' (c:=c) (.inLoop c) C he f'⟩
 intro k cs;obtain ⟨e,da,w',bq,f'⟩:=key _ nS a w p rfl ak aI k cs;exact ⟨e,da,w',bq,.of_steps (.one stepR_loop) f'⟩
end Qm
end Go.cW
namespace Go.cW
def a7 (P:Program) (N:Nat) (o:Oper) (env:Env) (s:ao) (K X:af→ao→Prop):Prop:=
 gJ o=true∧∀ ro B a w p,dz N B ro env s a w p→pv P ((execOp a.eval o).run P w) fun e w'=>∃ al bk,de w p w' bk∧Kept s al w p w' bk∧dq w' bk al ∧
  match e with
  | .returned v=>∃ x,K x al∧Rel w' bk v x
  | .panicked dF=>∃ v x,xK v dF∧X x al∧Rel w' bk v x
  | .outgrown=>False
theorem a7.mono {P:Program} {N:Nat} {o:Oper} {env:Env} {s:ao} {K X aO nj:af→ao→Prop} (h:a7 P N o env s K X)
  (aD:∀ x s,K x s→aO x s) (ab:∀ x s,X x s→nj x s):a7 P N o env s aO nj :=
 ⟨h.1,fun ro B a w p aI=>(h.2 ro B a w p aI).mono fun e w' ⟨al,bk,U,ae,an,bd⟩=>⟨al,bk,U,ae,an,by
  cases e with
  | returned v=>obtain ⟨x,ab,aF⟩:=bd;exact ⟨x,aD _ _ ab,aF⟩
  | panicked dF=>obtain ⟨v,x,aA,iB,aF⟩:=bd;exact ⟨v,x,aA,ab _ _ iB,aF⟩
  | outgrown=>exact bd⟩⟩
def guardOf (ops:Array Oper) (env:Env) (o:Oper):Option Bool:=
  match o.guard with
  | none=>some true
  | some (j,want)=>
    match (ops[j]?).bind (·.dst) with
    | none=>some false
    | some d=>match env.get? d with
      | some (.bool b)=>some (match want with|true=>b|false => !b)
      | some (.cu [])=>some false
      | _=>none
theorem Qo {w:World} {p:bT} {v:Value} (h:Rel w p v (.cu [])):v = .tuple #[]:=by
 cases h with
 | cu vs _ h=>have:=h.length;simp at this;rw [this]
theorem vA {N:Nat} {B:fP} {ro:Option Nat} {env:Env} {s:ao} {a:Act} {w:World} {p:bT} (aI:dz N B ro env s a w p) {ops:Array Oper} {o:Oper} {g:Bool}
  (h:guardOf ops env o=some g):Region.wanted o (yielded ops a.tmps)=g:=by
 unfold guardOf at h;unfold Region.wanted;split at h
 ·rename_i aw;simp only [aw];cases h;rfl
 ·rename_i j want aw
  simp only [aw];split at h
  ·rename_i ax
   cases h;simp [yielded,ax]
  ·rename_i d ax
   split at h
   ·rename_i b aq
    have aF:=aI.env d _ aq;have av:=B1 aF;cases h;have ay:yielded ops a.tmps j=some b:=by
     unfold yielded;have:a.tmps[d]? = some (.bool b):=by
      rw [ad8] at av;cases ab:a.tmps[d]? with
      | none=>rw [ab] at av;simp [undef] at av
      | some v=>rw [ab] at av;simpa using av
     simp [ax,this]
    rw [ay];cases want<;>cases b<;>rfl
   ·rename_i aq
    cases h;have aF:=aI.env d _ aq;have av:a.tmps.getD d undef = .tuple #[]:=by
     generalize Jd:a.tmps.getD d undef=v at aF;exact Qo aF
    have ay:yielded ops a.tmps j=none:=by
     unfold yielded;rw [ad8] at av;simp only [ax,ah2];cases ab:a.tmps[d]? with
     | none=>rfl
     | some v=>rw [ab] at av;simp at av;subst av;rfl
    rw [ay];rfl
   ·cases h
def fH (P:Program) (N:Nat) (ops:Array Oper) (l:List Nat) (Q:b8→Env→ao→Prop) (env:Env) (s:ao):Prop:=
 ∀ ro B a w p,dz N B ro env s a w p→ja P ops (ku N B ro s w p Q) l a w
section rw
variable {P:Program} {N:Nat} {ops:Array Oper} {Q:b8→Env→ao→Prop} {env:Env} {s:ao}
theorem ad.region {id:Nat} (h:fH P N ops (ae7 ops.size) Q env s):ad P N (.region id ops false) Q env s:=
 fun b B a w p _ aI=>Qf (h b.roundOf B a w p aI)
theorem fH.nil (h:Q .normal env s):fH P N ops [] Q env s:=fun _ _ _ _ _ aI => .here .normal h aI
theorem vB {Q oJ:hb→Act→World→Prop} (bq:∀ e a w,Q e a w→oJ e a w):∀ (l:List Nat) (a:Act) (w:World),ja P ops Q l a w→ja P ops oJ l a w:=by
 intro l
 induction l with
 | nil=>exact fun a w h=>bq _ _ _ h
 | cons i rest a6=>
  intro a w h;simp only [ja] at h ⊢;split at h
  ·rename_i ah;exact a6 _ _ h
  ·rename_i o ah
   split at h
   ·rename_i hw
    rw [f9 hw];exact ⟨h.1,h.2.mono fun e w' he=>by cases e<;>first|exact a6 _ _ he|exact bq _ _ _ he|exact he⟩
   ·rename_i hw
    rw [d9 hw];exact a6 _ _ h
theorem fH.after {l:List Nat} {s₁:ao} {ro:Option Nat} {B:fP} {a:Act} {w w₁:World} {p p₁:bT} {EM:Env}
  (hle:de w p w₁ p₁) (aD:Kept s s₁ w p w₁ p₁) (h:fH P N ops l Q EM s₁) (aI:dz N B ro EM s₁ a w₁ p₁):ja P ops (ku N B ro s w p Q) l a w₁:=
 vB (fun _ _ _ q=>q.after hle aD) l a w₁ (h ro B a w₁ p₁ aI)
theorem fH.op {i:Nat} {l:List Nat} {o:Oper} {d:Nat} {K X:af→ao→Prop} (ah:ops[i]? = some o) (aw:guardOf ops env o=some true) (ax:o.dst=some d)
  (aW:t6 d N=true) (h:a7 P N o env s K X) (aD:∀ x al,K x al→fH P N ops l Q ((d,x)::env) al) (ab:∀ x al,X x al→Q (.panic x) env al) :
  fH P N ops (i::l) Q env s:=by
 intro ro B a w p aI;have nk:d<N:=by simpa [ak8] using aW
 simp only [ja,ah,vA aI aw,if_true];refine ⟨h.1,(h.2 ro B a w p aI).mono ?_⟩;rintro e w' ⟨al,bk,hle,lM,cd,he⟩;cases e with
 | returned v=>
  obtain ⟨x,bh,aF⟩:=he;rw [ax];exact fH.after hle lM (aD x al bh) ((aI.step hle lM cd).put nk aF)
 | panicked dF=>
  obtain ⟨v,x,kW,iB,aF⟩:=he;exact ⟨.panic x,env,al,bk,.panic v x dF kW aF,ab x al iB,aI.step hle lM cd,hle,lM⟩
 | outgrown=>exact he
theorem fH.vC {i:Nat} {l:List Nat} {o:Oper} {K X:af→ao→Prop} (ah:ops[i]? = some o) (aw:guardOf ops env o=some true) (ax:o.dst=none)
  (h:a7 P N o env s K X) (aD:∀ x al,K x al→fH P N ops l Q env al) (ab:∀ x al,X x al→Q (.panic x) env al) :
  fH P N ops (i::l) Q env s:=by
 intro ro B a w p aI;simp only [ja,ah,vA aI aw,if_true];refine ⟨h.1,(h.2 ro B a w p aI).mono ?_⟩;rintro e w' ⟨al,bk,hle,lM,cd,he⟩;cases e with
 | returned v=>
  obtain ⟨x,bh,aF⟩:=he;rw [ax];exact fH.after hle lM (aD x al bh) (aI.step hle lM cd)
 | panicked dF=>
  obtain ⟨v,x,kW,iB,aF⟩:=he;exact ⟨.panic x,env,al,bk,.panic v x dF kW aF,ab x al iB,aI.step hle lM cd,hle,lM⟩
 | outgrown=>exact he
theorem EN {w:World} {p:bT}:Rel w p undef (.cu []) := .cu #[] [] .nil
theorem fH.skip {i:Nat} {l:List Nat} {o:Oper} {d:Nat} (ah:ops[i]? = some o) (aw:guardOf ops env o=some false) (ax:o.dst=some d) (aW:t6 d N=true)
  (h:fH P N ops l Q ((d,.cu [])::env) s):fH P N ops (i::l) Q env s:=by
 intro ro B a w p aI;have nk:d<N:=by simpa [ak8] using aW
 simp only [ja,ah,vA aI aw,if_false,ad4,ax];exact h ro B _ w p (aI.put nk EN)
end rw
theorem dq.grow {w w':World} {p bk:bT} {s:ao} (hle:de w p w' bk) (cP:∀ b,b<w.heap.size→w'.heap[b]? = w.heap[b]?)
  (aE:∀ b o,b<w.heap.size→bk b o→p b o) (ar:∀ b o,bk b o→b<w'.heap.size) (h:dq w p s):dq w' bk s:=by
 refine ⟨fun b o aq=>?_,ar⟩;have ah:=h.obj b o aq;cases o with
 | box t cs=>
  obtain ⟨vs,U,ae,an⟩:=ah;have sO:b<w.heap.size:=(i9.1 U).1;exact ⟨vs,(cP b sO).trans U,ae.mono hle,fun o e9=>an o (aE b o sO e9)⟩
 | row t sz n=>
  obtain ⟨cur,U,ae,an,bd⟩:=ah;have sO:b<w.heap.size:=(i9.1 U).1;exact ⟨cur,(cP b sO).trans U,ae,an,fun o=>⟨fun e9=>(bd o).1 (aE b o sO e9),fun az=>hle.lk _ _ ((bd o).2 az)⟩⟩
 | map es=>
  obtain ⟨cM,clock,U,ae,an,bd⟩:=ah;have sO:b<w.heap.size:=(i9.1 U).1;exact ⟨cM,clock,(cP b sO).trans U,⟨ae.1.mono hle,ae.2.mono hle⟩,an,bd⟩
 | ll es it left cur=>
  obtain ⟨cM,clock,seen,U,ae,-⟩:=id ah;exact ah.qm hle (cP b (i9.1 U).1) (cP it (i9.1 ae).1)
 | tick m=>obtain ⟨di,a2,a3,U⟩:=ah;exact ⟨di,a2,a3,(cP b (i9.1 U).1).trans U⟩
 | loop r env=>exact ⟨(cP b (i9.1 ah.1).1).trans ah.1,fun t v h=>(ah.2 t v h).mono hle⟩
theorem mg (w:World) (o:Obj) (b:Nat) (h:b<w.heap.size):(w.alloc o).heap[b]? = w.heap[b]?:=by
 show (w.heap.push o)[b]? = _;rw [aw6,d9 ag]
theorem ue (w:World) (o:Obj):(w.alloc o).heap[w.heap.size]? = some o:=by
 show (w.heap.push o)[w.heap.size]? = _;rw [aw6,f9 C]
theorem xN {w w':World} {b:Nat} (h:w'.heap[b]? = w.heap[b]?):w'.kU b=w.kU b:=by simp [World.kU,h]
theorem xO {w w':World} {b o:Nat} (h:w'.heap[b]? = w.heap[b]?):w'.cell? ⟨b,o,none⟩=w.cell? ⟨b,o,none⟩:=by simp [World.cell?,h]
theorem Qp {w:World} {b:Nat} {x:TypeId×Nat} (h:w.kU b=some x):b<w.heap.size:=by
 unfold World.kU at h;split at h
 ·rename_i cP;exact (i9.1 cP).1
 ·cases h
theorem de.of_heap {w w':World} {p bk:bT} (ah:w'.os=w.os) (aN:w'.tape=w.tape) (hu:w'.output=w.output) (au:w.heap.size≤w'.heap.size)
  (aE:∀ b o,p b o→bk b o) (ar:∀ b o,p b o→b<w.heap.size) (cP:∀ b,b<w.heap.size→w'.heap[b]? = w.heap[b]?):de w p w' bk :=
 ⟨ah,aN,hu,au,aE,fun b o aq=>xO (cP b (ar b o aq)),fun b x ab=>by rw [xN (cP b (Qp ab))];exact ab⟩
def bT.ej (p:bT) (b:Nat) (c:Prop):bT:=fun aX o=>p aX o∨(aX=b∧c)
section alloc
variable {w:World} {p:bT} {s:ao}
theorem uf (ar:∀ b o,p b o→b<w.heap.size) (o:Obj) (c:Prop):de w p (w.alloc o) (p.ej w.heap.size c):=
 de.of_heap C C C ba (fun _ _ h => .inl h) ar (fun b aq=>mg w o b aq)
theorem zn (h:dq w p s) (o:Obj) (c:Prop):dq (w.alloc o) (p.ej w.heap.size c) s:=
  h.grow (uf h.lt o c) (fun b aq=>mg w o b aq) (fun b o aq aE=>by rcases aE with aE|⟨rfl,_⟩;exact aE;omega)
    (fun b o aE=>by rcases aE with aE|⟨rfl,_⟩;have:=h.lt b o aE;simp;omega;simp)
theorem B2 (o:Obj) (c:Prop):Kept s s w p (w.alloc o) (p.ej w.heap.size c):=
 ⟨fun b aq _=>mg w o b aq,fun _ _ h=>h,fun b o aq _ aE=>by rcases aE with aE|⟨rfl,_⟩;exact aE;omega⟩
theorem EO (vs:List Value) (t:TypeId):vy (w.alloc (.cells vs.toArray t)) (p.ej w.heap.size True) w.heap.size 0 vs:=by
 intro i v av;refine ⟨.inr ⟨rfl,trivial⟩,?_⟩;rw [ae4];simp only [World.cell?,ue,an0,ad4,if_false];simpa using av
theorem kX:de w p w.drew p:=⟨rfl,rfl,rfl,i0 _,fun _ _ h=>h,fun _ _ _=>rfl,fun _ _ h=>h⟩
theorem xP (h:dq w p s):dq w.drew p s:=h.grow kX (fun _ _=>rfl) (fun _ _ _ h=>h) h.lt
theorem vD:Kept s s w p w.drew p:=⟨fun _ _ _=>rfl,fun _ _ h=>h,fun _ _ _ _ h=>h⟩
end alloc
end Go.cW
namespace Go.cW
inductive sP where
 | bool
 | int (k:IntKind)
 | str
 | ptr (e:TypeId)
 | aC (e:TypeId)
 | map (k e:TypeId)
 | struct (gK:List (Nat×TypeId))
 | iface (bare:Bool)
 | func
 | arr (n:Nat) (e:TypeId)
 | other
structure bN where
 bG:sP
 size:Nat
 bytes:Nat
 zero:Value
def ez:TypeDesc→sP
 | .bool => .bool
 | .int k => .int k
 | .string => .str
 | .pointer e => .ptr e
 | .slice e => .aC e
 | .map k e => .map k e
 | .struct gK => .struct (gK.toList.map fun f=>(f.offset,f.type))
 | .interface ms => .iface ms.isEmpty
 | .func .. => .func
 | .array n e => .arr n e
 | _ => .other
abbrev cz:=List (Nat×bN)
def cz.get? : cz→Nat→Option bN
 | [],_=>none
 | (t,v)::e,n=>if ac' t n then some v else cz.get? e n
def EP (P:Program) (t:TypeId):Option bN:=
  match P.info? t,P.underlying t with
  | some i,some d=>match i.zero with
    | some z=>some { bG:=ez d,size:=i.size,bytes:=i.bytes,zero:=z }
    | none=>none
  | _,_=>none
def bQ (P:Program) (Γ:cz):Prop:=∀ t i,Γ.get? t=some i→EP P t=some i
theorem Qq (P:Program) (Γ:cz) (h:Γ.map (fun x=>EP P x.1)=Γ.map (fun x=>some x.2)):bQ P Γ:=by
 induction Γ with
 | nil=>intro t i h;simp [cz.get?] at h
 | cons x Γ a6=>
  obtain ⟨bH,B3⟩:=x;simp only [ac4,List.cons.injEq] at h;intro t i aw;simp only [cz.get?] at aw;split at aw
  ·rename_i he
   have:=ac1 he;subst this;cases aw;exact h.1
  ·exact a6 h.2 t i aw
theorem bQ.parts {P:Program} {Γ:cz} (h:bQ P Γ) {t:TypeId} {i:bN} (aQ:Γ.get? t=some i) :
  ∃ info d,P.info? t=some info∧P.underlying t=some d∧ez d=i.bG∧info.size=i.size∧info.bytes=i.bytes∧info.zero=some i.zero:=by
 have:=h t i aQ;unfold EP at this;split at this
 ·rename_i info d U ae
  split at this
  ·rename_i z bO
   cases this;exact ⟨info,d,U,ae,rfl,rfl,rfl,bO⟩
  ·cases this
 ·cases this
def cellsOf:af→Option (List af)
 | .agg cs=>some cs
 | .any=>none
 | .hB (.func f a c)=>some [.hB (.func f a c)]
 | .hB (.slice a n c)=>some [.hB (.slice a n c)]
 | .hB _=>none
 | .cu _=>none
 | v=>some [v]
theorem qn {w:World} {p:bT} {v:Value} {x:af} {cs:List af} (aF:Rel w p v x) (h:cellsOf x=some cs):bF w p v.cells.toList cs:=by
 cases aF with
 | hB v=>
  cases v<;>simp [cellsOf] at h
  all_goals
   subst h;exact .cons _ _ _ _ (.hB _) .nil
 | any=>cases h
 | cu=>cases h
 | agg cs xs eX=>cases h;exact eX
 | _=>simp only [cellsOf] at h;cases h;simp only [Value.cells];refine .cons _ _ _ _ ?_ .nil;constructor<;>assumption
def ug:Nat→List af→Option (List af)
  | 0,_=>some []
  | n+1,v::r=>match ug n r with
    | some s=>some (v::s)
    | none=>none
  | _+1,[]=>none
def qo:Nat→List af→Option (List af)
 | 0,r=>some r
 | n+1,_::r=>qo n r
 | _+1,[]=>none
def nth {α:Type}:List α→Nat→Option α
 | [],_=>none
 | x::_,0=>some x
 | _::r,n+1=>nth r n
theorem xQ {α:Type} (l:List α) (n:Nat):nth l n=l[n]?:=by
  induction l generalizing n with
  | nil=>rfl
  | cons x l a6=>cases n with
    | zero=>rfl
    | succ n=>simp only [nth,am8];exact a6 n
theorem B4 {n:Nat} {l r:List af} (h:ug n l=some r):r=l.take n∧n≤l.length:=by
 induction n generalizing l r with
 | zero=>cases h;simp
 | succ n a6=>
  cases l with
  | nil=>simp [ug] at h
  | cons v l=>
   simp only [ug] at h;split at h
   ·rename_i s au;cases h;obtain ⟨U,ae⟩:=a6 au;subst U;simp;omega
   ·cases h
theorem Qr {n:Nat} {l r:List af} (h:qo n l=some r):r=l.drop n:=by
  induction n generalizing l with
  | zero=>cases h;rfl
  | succ n a6=>cases l with
    | nil=>simp [qo] at h
    | cons v l=>simpa [qo] using a6 (by simpa [qo] using h)
def hO (i:bN) (cells:List af) (off:Nat):Option af:=
  match qo off cells with
  | none=>none
  | some r=>match i.bG with
    | .struct _=>match ug i.size r with
      | some cs=>some (.agg cs)
      | none=>none
    | .arr _ _=>match ug i.size r with
      | some cs=>some (.agg cs)
      | none=>none
    | .other=>none
    | _=>match r with
      | v::_=>some v
      | []=>none
def hC:Value→Option af
  | .agg cs=>match cs.toList.mapM xJ with
    | some xs=>some (.agg xs)
    | none=>none
  | v=>xJ v
theorem Qs {w:World} {p:bT} {vs:List Value} {xs:List af} (h:vs.mapM xJ=some xs):bF w p vs xs:=by
 induction vs generalizing xs with
 | nil=>simp at h;subst h;exact .nil
 | cons v vs a6=>
  simp only [av3,Option.bind_eq_bind,Option.pure_def,Option.bind_eq_some_iff,al8.injEq] at h;obtain ⟨x,ab,ys,sQ,rfl⟩:=h;exact .cons _ _ _ _ (EJ ab) (a6 sQ)
theorem qp {w:World} {p:bT} {v:Value} {x:af} (h:hC v=some x):Rel w p v x:=by
 unfold hC at h;split at h
 ·split at h
  ·rename_i cs xs ab;cases h;exact .agg _ _ (Qs ab)
  ·cases h
 ·exact EJ h
def vE (d:TypeDesc):Bool:=match d with | .struct _ | .array _ _=>true|_=>false
theorem xR {P:Program} {t:TypeId} {d:TypeDesc} (h:P.underlying t=some d) (w:World):(isAgg t).run P w = .ok (vE d) w:=by
 unfold isAgg;rw [aa',run_underlying h,g9];cases d<;>rfl
theorem zo {d:TypeDesc} {gK:List (Nat×TypeId)} (h:ez d = .struct gK):∃ f:Array Field,d = .struct f∧gK=f.toList.map fun x=>(x.offset,x.type):=by
 cases d<;>simp [ez] at h;rename_i f;exact ⟨f,rfl,h.symm⟩
theorem zp {d:TypeDesc} {n:Nat} {e:TypeId} (h:ez d = .arr n e):d = .array n e:=by
 cases d<;>simp [ez] at h
 rw [h.1,h.2]
theorem Je {d:TypeDesc} (U:∀ gK,ez d ≠ .struct gK) (an:∀ n e,ez d ≠ .arr n e) (ae:ez d ≠ .other):vE d=false:=by
 cases d<;>simp_all [ez,vE]
def ER (op:BinOp) (k:IntKind) (a b:Int):Option af:=
 match op with
 | .add=>some (.int k (k.wrap (a+b)))
 | .sub=>some (.int k (k.wrap (a-b)))
 | .mul=>some (.int k (k.wrap (a*b)))
 | .eql=>some (.bool (a==b))
 | .neq=>some (.bool (a != b))
 | .lss=>some (.bool (decide (a<b)))
 | .leq=>some (.bool (decide (a≤b)))
 | .gtr=>some (.bool (decide (a>b)))
 | .geq=>some (.bool (decide (a≥b)))
 | _=>none
def ES (op:BinOp) (a b:List UInt8):Option af:=
 match op with
 | .eql=>some (.bool (a==b))
 | .neq=>some (.bool (!(a==b)))
 | .lss=>some (.bool (Op.bytesLess a b))
 | .gtr=>some (.bool (!(Op.bytesLess a b||a==b)))
 | .leq=>some (.bool (Op.bytesLess a b||a==b))
 | .geq=>some (.bool (!(Op.bytesLess a b)))
 | _=>none
def vF:af→Option Bool
 | .qk | .sN | .ud | .nR=>some true
 | .ptr _ _ | .bA _ _ | .mf _ _ | .map _ | .func _ _ _ | .iface _ _=>some false
 | .aC _ _ .nil=>some true
 | .aC _ (_::_) _=>some false
 | .aC _ _ (.own _)=>some false
 | _=>none
inductive ET where|ptr|aC|map|func|iface
def Jf:Operand→Option ET
 | .const (.pointer none)=>some .ptr
 | .const (.slice none 0 0)=>some .aC
 | .const (.map none)=>some .map
 | .const .nilFunc=>some .func
 | .const .nilIface=>some .iface
 | _=>none
def sP.B5:sP→ET→Bool
 | .ptr _,.ptr=>true
 | .aC _,.aC=>true
 | .map _ _,.map=>true
 | .func,.func=>true
 | .iface _,.iface=>true
 | _,_=>false
def af.B6:af→ET→Bool
 | .qk,.ptr | .ptr _ _,.ptr | .bA _ _,.ptr | .mf _ _,.ptr=>true
 | .aC _ _ _,.aC=>true
 | .sN,.map | .map _,.map=>true
 | .ud,.func | .func _ _ _,.func=>true
 | .nR,.iface | .iface _ _,.iface=>true
 | _,_=>false
def B7 (Γ:cz) (op:BinOp) (t:TypeId) (y:Operand) (a b:af):Option af:=
  match Jf y with
  | some k=>match Γ.get? t with
    | some i=>match i.bG.B5 k,a.B6 k,vF a,op with
      | true,true,some q,.eql=>some (.bool q)
      | true,true,some q,.neq=>some (.bool (!q))
      | _,_,_,_=>none
    | none=>none
  | none=>match a,b with
    | .int k x,.int k' z=>if k=k' then ER op k x z else none
    | .str x,.str z=>ES op x z
    | .bool x,.bool z=>match Γ.get? t,op with
      | some ⟨.bool,_,_,_⟩,.eql=>some (.bool (x==z))
      | some ⟨.bool,_,_,_⟩,.neq=>some (.bool (!(x==z)))
      | _,_=>none
    | .mf x _,.mf z _=>match Γ.get? t,op with
      | some ⟨.ptr e,_,_,_⟩,.eql=>match Γ.get? e with
        | some ⟨_,_+1,_,_⟩=>some (.bool (x==z))
        | _=>none
      | some ⟨.ptr e,_,_,_⟩,.neq=>match Γ.get? e with
        | some ⟨_,_+1,_,_⟩=>some (.bool (!(x==z)))
        | _=>none
      | _,_=>none
    | _,_=>none
theorem Qt {P:Program} {op:BinOp} {t:TypeId} {k:IntKind} {a b:Int} {x:af} (h:ER op k a b=some x) (w:World) (p:bT) :
  ∃ v,(binOp op t (.int k a) (.int k b)).run P w = .ok v w∧Rel w p v x:=by
 cases op<;>simp only [ER] at h<;>cases h<;>simp only [binOp,ne_eq,not_true_eq_false,if_false,Op.intArith,Op.intCmp,ac5] <;>
  first|exact ⟨_,rfl,.int _ _⟩|exact ⟨_,rfl,.bool _⟩
theorem Qu {P:Program} {op:BinOp} {t:TypeId} {a b:ByteArray} {x:af} (h:ES op a.data.toList b.data.toList=some x) (w:World) (p:bT) :
  ∃ v,(binOp op t (.string a) (.string b)).run P w = .ok v w∧Rel w p v x:=by
 cases op<;>simp only [ES] at h<;>cases h<;>simp only [binOp,Op.stringOp,ac5,ByteArray.toList_eq]<;>exact ⟨_,rfl,.bool _⟩
theorem Jg {w:World} {b:Nat} {x:TypeId×Nat} (h:w.kU b=some x):∃ c T,w.heap[b]? = some (.cells c T (0,0)):=by
 unfold World.kU at h;split at h
 ·rename_i c T cP;exact ⟨c,T,cP⟩
 ·cases h
theorem sR {P:Program} {op:BinOp} {t:TypeId} {x y:Operand} {a b:Value} (w:World) (h:(a = .nilIface∧b = .nilIface→∃ c,y = .const c)∧(∀ c,a ≠ .agg c)) :
  (eqGuard op t x y a b).run P w = .ok () w:=by
 cases a with
 | nilIface=>
  cases b with
  | nilIface=>
   obtain ⟨c,rfl⟩:=h.1 ⟨rfl,rfl⟩;cases x<;>cases op<;>rfl
  | _=>cases op<;>rfl
 | agg c=>exact absurd C (h.2 c)
 | _=>cases op<;>rfl
theorem vG {P:Program} {t:TypeId} {x y:Value} {q:Bool} {w:World} (aq:binOp .eql t x y=(do pure (.bool (← Op.equal t x y)))) (az:binOp .neq t x y=(do pure (.bool (!(← Op.equal t x y)))))
  (h:∀ d,(Op.equalIn (d+1) t x y).run P w = .ok q w):(binOp .eql t x y).run P w = .ok (.bool q) w∧(binOp .neq t x y).run P w = .ok (.bool (!q)) w:=by
 have he:(Op.equal t x y).run P w = .ok q w:=h 9999;rw [aq,az];simp only [aa',he,g9,ac5,and_self]
theorem Qv {w:World} {p:bT} {v:Value} {sz:Nat} {xs:List af} {own:bM} {q:Bool} (h:Rel w p v (.aC sz xs own)) (bq:vF (.aC sz xs own)=some q) :
  (v = .slice none 0 0∧q=true)∨(∃ a n c,v = .slice (some a) n c∧q=false):=by
 cases h with
 | hY _ _ ah=>
  cases own<;>simp [vF] at bq
  ·exact .inl ⟨rfl,by simp [bq]⟩
  ·exact absurd C (ah _)
 | iA a _ _ ah=>rcases ah with rfl|rfl<;>simp [vF] at bq
 | aC g off n cap _ vs _ _ az aB aA aF au hm aD ct ah=>
  refine .inr ⟨_,_,_,rfl,?_⟩;cases own<;>cases xs<;>simp [vF] at bq az<;>simp [bq]
theorem Qw {P:Program} {Γ:cz} (aP:bQ P Γ) {N:Nat} {B:fP} {ro:Option Nat} {env:Env} {s:ao} {a:Act} {w:World} {p:bT} (aI:dz N B ro env s a w p)
  {op:BinOp} {t yt:TypeId} {x y:Operand} {u v r:af} (ab:aL env x=some u) (ay:aL env y=some v) (h:B7 Γ op t y u v=some r) :
  ∃ val,(do eqGuard op t x y (a.eval x) (a.eval y);binOp op t (a.eval x) (a.eval y):Sem Value).run P w = .ok val w∧Rel w p val r:=by
 have hu:=aI.aL ab;have av:=aI.aL ay;unfold B7 at h;split at h
 ·rename_i k aD
  have Qx:∃ c,y = .const c∧a.eval y=c∧((k = .ptr∧c = .pointer none)∨(k = .aC∧c = .slice none 0 0)∨(k = .map∧c = .map none)∨(k = .func∧c = .nilFunc)∨(k = .iface∧c = .nilIface)):=by
   unfold Jf at aD;split at aD<;>cases aD<;>exact ⟨_,rfl,rfl,by simp⟩
  obtain ⟨c,rfl,aA,B8⟩:=Qx;rw [aA];split at h
  ·rename_i i aQ
   obtain ⟨info,d,U,ae,an,-⟩:=aP.parts aQ;have key:∀ q,vF u=some q→u.B6 k=true→i.bG.B5 k=true→(∀ cs,a.eval x ≠ .agg cs)∧(binOp .eql t (a.eval x) c).run P w = .ok (.bool q) w∧(binOp .neq t (a.eval x) c).run P w = .ok (.bool (!q)) w:=by
    intro q bq aZ ah;generalize a.eval x=dX at hu;rw [← an] at ah;have au:∀ (g n cap:Nat) (o:Nat),True:=fun _ _ _ _=>trivial
    have dd:∀ e sz xs own,d = .slice e→u = .aC sz xs own→(∀ cs,dX ≠ .agg cs)∧(binOp .eql t dX (.slice none 0 0)).run P w = .ok (.bool q) w∧(binOp .neq t dX (.slice none 0 0)).run P w = .ok (.bool (!q)) w:=by
     rintro e sz xs own rfl rfl;rcases Qv hu bq with ⟨rfl,rfl⟩|⟨a,n,c,rfl,rfl⟩<;>(refine ⟨by simp,vG C C (fun d=>?_)⟩<;>simp [Op.equalIn,run_underlying ae])
    rcases B8 with ⟨rfl,rfl⟩|⟨rfl,rfl⟩|⟨rfl,rfl⟩|⟨rfl,rfl⟩|⟨rfl,rfl⟩ <;>
    (try (cases d<;>simp only [ez,sP.B5] at ah<;>(try (simp at ah;done))<;>cases u<;>simp only [af.B6] at aZ<;>(try (simp at aZ;done))<;>exact dd _ _ _ _ C C)) <;>
    cases d<;>simp only [ez,sP.B5] at ah<;>(try (simp at ah;done)) <;>
    cases hu<;>simp only [af.B6,vF] at aZ bq<;>(try (simp at aZ;done)) <;>
    (try (cases bq)) <;>
    (refine ⟨by simp,vG C C (fun d=>?_)⟩<;>simp [Op.equalIn,run_underlying ae]<;>done)
   split at h
   ·rename_i q ah aZ bq
    cases h;obtain ⟨cA,db,fe⟩:=key q bq aZ ah;exact ⟨_,by rw [aa',sR w ⟨fun _=>⟨_,rfl⟩,cA⟩,g9,db],.bool _⟩
   ·rename_i q ah aZ bq
    cases h;obtain ⟨cA,db,fe⟩:=key q bq aZ ah;exact ⟨_,by rw [aa',sR w ⟨fun _=>⟨_,rfl⟩,cA⟩,g9,fe],.bool _⟩
   ·cases h
  ·cases h
 ·split at h
  ·rename_i k z k' acU
   split at h
   ·rename_i lM
    subst lM;generalize a.eval x=dX at hu;generalize a.eval y=ga at av;cases hu;cases av;obtain ⟨val,U,ae⟩:=Qt (P:=P) (t:=t) h w p;exact ⟨val,by rw [aa',sR w ⟨by simp,by simp⟩,g9,U],ae⟩
   ·cases h
  ·generalize a.eval x=dX at hu;generalize a.eval y=ga at av
   cases hu with|str hP _ cb=>cases av with|str dA _ b1=>
   subst cb;subst b1;obtain ⟨val,U,ae⟩:=Qu (P:=P) (t:=t) h w p;exact ⟨val,by rw [aa',sR w ⟨by simp,by simp⟩,g9,U],ae⟩
  ·generalize a.eval x=dX at hu;generalize a.eval y=ga at av
   cases hu;cases av;split at h
   ·rename_i aQ
    obtain ⟨info,d,U,ae,an,-⟩:=aP.parts aQ;have ax:d = .bool:=by cases d<;>simp [ez] at an;rfl
    subst ax;cases h;exact ⟨_,by rw [aa',sR w ⟨by simp,by simp⟩,g9];exact run_eql_bool w t _ _ ae,.bool _⟩
   ·rename_i aQ
    obtain ⟨info,d,U,ae,an,-⟩:=aP.parts aQ;have ax:d = .bool:=by cases d<;>simp [ez] at an;rfl
    subst ax;cases h;exact ⟨_,by rw [aa',sR w ⟨by simp,by simp⟩,g9];exact run_neq_bool w t _ _ ae,.bool _⟩
   ·cases h
  ·rename_i hP abt dA gk
   generalize a.eval x=dX at hu;generalize a.eval y=ga at av;cases hu;cases av;rename_i v1 B9 s1 c7 fs v2 zq s2 dh gD;have key:∀ e d i,P.underlying t=some (.pointer e)→Γ.get? e=some i→i.size≠0→(Op.equalIn (d+1) t (.pointer (some ⟨hP,0,none⟩)) (.pointer (some ⟨dA,0,none⟩))).run P w = .ok (hP==dA) w:=by
    intro e d i he aQ br;obtain ⟨mK,c6,nT,nU,vH,nm,-⟩:=aP.parts aQ;have ca:mK.size≠0:=by rw [nm];exact br
    have au:(sameAddr ⟨hP,0,none⟩ ⟨dA,0,none⟩).run P w = .ok (hP==dA) w:=by
     by_cases aq:hP=dA
     ·subst aq;rw [beq_self_eq_true];exact run_sameAddr_same w _
     ·rw [beq_eq_false_iff_ne.2 aq]
      obtain ⟨jG,acG,cA⟩:=Jg s1.choose_spec;obtain ⟨jq,acV,db⟩:=Jg s2.choose_spec;exact run_sameAddr_other w (fun e=>aq (congrArg Addr.block e)) cA db
    simp only [Op.equalIn,aa',run_underlying he,g9,sizeOf,typeInfo,run_program,nT,ac5];rw [f9 (by simpa using ca)];exact au
   split at h
   ·rename_i aQ
    obtain ⟨info,d,U,ae,an,-⟩:=aP.parts aQ;obtain ⟨e,rfl⟩:∃ e,d = .pointer e:=by cases d<;>simp [ez] at an;exact ⟨_,rfl⟩
    simp only [ez,sP.ptr.injEq] at an;subst an;split at h
    ·rename_i he
     cases h;exact ⟨_,by rw [aa',sR w ⟨by simp,by simp⟩,g9];exact (vG C C fun d=>key e d _ ae he ba).1,.bool _⟩
    ·cases h
   ·rename_i aQ
    obtain ⟨info,d,U,ae,an,-⟩:=aP.parts aQ;obtain ⟨e,rfl⟩:∃ e,d = .pointer e:=by cases d<;>simp [ez] at an;exact ⟨_,rfl⟩
    simp only [ez,sP.ptr.injEq] at an;subst an;split at h
    ·rename_i he
     cases h;exact ⟨_,by rw [aa',sR w ⟨by simp,by simp⟩,g9];exact (vG C C fun d=>key e d _ ae he ba).2,.bool _⟩
    ·cases h
   ·cases h
  ·cases h
def fQ (env:Env):List Operand→Option (List af)
  | []=>some []
  | o::r=>match aL env o with
    | some v=>match fQ env r with
      | some vs=>some (v::vs)
      | none=>none
    | none=>none
theorem B' {N:Nat} {B:fP} {ro:Option Nat} {env:Env} {s:ao} {a:Act} {w:World} {p:bT} (aI:dz N B ro env s a w p) {l:List Operand} {vs:List af}
  (h:fQ env l=some vs):bF w p (l.map a.eval) vs:=by
 induction l generalizing vs with
 | nil=>cases h;exact .nil
 | cons o r a6=>
  simp only [fQ] at h;split at h
  ·rename_i v av
   split at h
   ·rename_i us hu;cases h;exact .cons _ _ _ _ (aI.aL av) (a6 hu)
   ·cases h
  ·cases h
def eU:Nat→List af→List af→List af
 | _,[],cells=>cells
 | off,c::cs,cells=>eU (off+1) cs (cells.set off c)
def vI (place:Nat→Option (Nat×Nat)):List af→List (Nat×af)→Option (List af)
  | cells,[]=>some cells
  | cells,(i,v)::rest=>match place i,cellsOf v with
    | some (off,size),some cs=>match ac' cs.length size&&al5 (off+size) cells.length with
      | true=>vI place (eU off cs cells) rest
      | false=>none
    | _,_=>none
def placesOf (Γ:cz):List (Nat×TypeId)→Option (List (Nat×Nat))
  | []=>some []
  | (off,t)::r=>match Γ.get? t with
    | some i=>match placesOf Γ r with
      | some l=>some ((off,i.size)::l)
      | none=>none
    | none=>none
def vJ (env:Env):List (Nat×Operand)→Option (List (Nat×af))
  | []=>some []
  | (i,o)::r=>match aL env o with
    | some v=>match vJ env r with
      | some l=>some ((i,v)::l)
      | none=>none
    | none=>none
def zr (env:Env) (sz:Nat):Nat→List (Nat×Operand)→Option (List af)
  | _,[]=>some []
  | k,(i,o)::r=>match ac' i k with
    | true=>match aL env o with
      | some v=>match cellsOf v with
        | some cs=>match ac' cs.length sz with
          | true=>match zr env sz (k+1) r with
            | some l=>some (v::l)
            | none=>none
          | false=>none
        | none=>none
      | none=>none
    | false=>none
def pw (Γ:cz) (o:Oper) (env:Env):Option af:=
  match o.op with
  | .move x=>aL env x
  | .assign x=>aL env x
  | .pick c a b=>match aL env c with
    | some (.bool true)=>aL env a
    | some (.bool false)=>aL env b
    | _=>none
  | .binOp op t x y _=>match aL env x,aL env y with
    | some a,some b=>B7 Γ op t y a b
    | _,_=>none
  | .unOp .not _ x=>match aL env x with
    | some (.bool b)=>some (.bool (!b))
    | _=>none
  | .extract x i=>match aL env x with
    | some (.cu vs)=>nth vs i
    | _=>none
  | .fieldAddr s x f=>match Γ.get? s with
    | some ⟨.struct gK,_,_,_⟩=>match nth gK f with
      | some (off,t)=>match Γ.get? t with
        | some ⟨_,_+1,_,_⟩=>match aL env x with
          | some (.ptr b o)=>some (.ptr b (o+off))
          | some (.bA cs o)=>some (.bA cs (o+off))
          | some (.mf _ cs)=>some (.bA cs off)
          | _=>none
        | _=>none
      | none=>none
    | _=>none
  | .field s x f=>match Γ.get? s with
    | some ⟨.struct gK,_,_,_⟩=>match nth gK f with
      | some (off,t)=>match Γ.get? t with
        | some i=>match aL env x with
          | some (.agg cs)=>hO i cs off
          | _=>none
        | none=>none
      | none=>none
    | _=>none
  | .load t x=>match Γ.get? t with
    | some i=>match aL env x with
      | some (.bA cs o)=>hO i cs o
      | some (.mf _ cs)=>hO i cs 0
      | _=>none
    | none=>none
  | .makeInterface t x=>match Γ.get? t with
    | some ⟨.iface _,_,_,_⟩=>none
    | some _=>match aL env x with
      | some v=>some (.iface t v)
      | none=>none
    | none=>none
  | .makeFunc (.func f) first cap=>match fQ env first.toList,fQ env cap.toList with
    | some a,some c=>some (.func f a c)
    | _,_=>none
  | .nilCheck x=>match aL env x with
    | some (.ptr b o)=>some (.ptr b o)
    | some (.bA cs o)=>some (.bA cs o)
    | some (.mf b cs)=>some (.mf b cs)
    | some (.func f a c)=>some (.func f a c)
    | _=>none
  | .typeAssert x _ t ok=>match Γ.get? t with
    | some ⟨.iface _,_,_,_⟩=>none
    | some i=>match aL env x with
      | some (.iface bH v)=>match ac' bH t,ok with
        | true,true=>some (.cu [v,.bool true])
        | true,false=>some v
        | false,true=>match hC i.zero with
          | some z=>some (.cu [z,.bool false])
          | none=>none
        | false,false=>none
      | some .nR=>match ok with
        | true=>match hC i.zero with
          | some z=>some (.cu [z,.bool false])
          | none=>none
        | false=>none
      | _=>none
    | none=>none
  | .call { callee := .builtin .len,args,argTypes }=>match args.toList,argTypes.toList with
    | [x],[t]=>match Γ.get? t with
      | some ⟨.aC _,_,_,_⟩=>match aL env x with
        | some (.aC _ xs _)=>some (.int .i64 xs.length)
        | _=>none
      | some ⟨.str,_,_,_⟩=>match aL env x with
        | some (.str l)=>some (.int .i64 l.length)
        | _=>none
      | _=>none
    | _,_=>none
  | .box _ x=>match aL env x with
    | some v=>match cellsOf v with
      | some cs=>some (.bA cs 0)
      | none=>none
    | none=>none
  | .build t parts=>match Γ.get? t with
    | some ⟨.struct gK,_,_,z⟩=>match placesOf Γ gK,hC z,vJ env parts.toList with
      | some pl,some (.agg a1),some ps=>match vI (nth pl) a1 ps with
        | some cs=>some (.agg cs)
        | none=>none
      | _,_,_=>none
    | some ⟨.arr _ e,_,_,z⟩=>match Γ.get? e,hC z,vJ env parts.toList with
      | some aG,some (.agg a1),some ps=>match vI (fun i=>some (i*aG.size,aG.size)) a1 ps with
        | some cs=>some (.agg cs)
        | none=>none
      | _,_,_=>none
    | _=>none
  | .buildSlice t len parts=>match Γ.get? t with
    | some ⟨.aC e,_,_,_⟩=>match Γ.get? e with
      | some aG=>match ac' parts.size len&&(al5 (len*aG.size) 16777216&&al5 len 16777216) with
        | true=>match zr env aG.size 0 parts.toList with
          | some xs=>some (.aC aG.size xs .clip)
          | none=>none
        | false=>none
      | none=>none
    | _=>none
  | _=>none
def gU (P:Program) (o:Oper) (a:Act) (w:World) (p:bT) (v:af):Prop:=
 ∃ val w' bk,(execOp a.eval o).run P w = .ok (.value val) w'∧Rel w' bk val v∧de w p w' bk∧(∀ s,dq w p s→Kept s s w p w' bk∧dq w' bk s)
theorem gU.same {P:Program} {o:Oper} {a:Act} {w:World} {p:bT} {v:af} {val:Value} (h:(execOp a.eval o).run P w = .ok (.value val) w) (aF:Rel w p val v) :
  gU P o a w p v:=⟨val,w,p,h,aF,.refl w p,fun s au=>⟨.refl s w p,au⟩⟩
theorem gU.alloc {P:Program} {o:Oper} {a:Act} {w:World} {p:bT} {v:af} {val:Value} (vs:Array Value) (t:TypeId) (ar:∀ b o,p b o→b<w.heap.size)
  (h:(execOp a.eval o).run P w = .ok (.value val) (w.alloc (.cells vs t))) (aF:Rel (w.alloc (.cells vs t)) (p.ej w.heap.size True) val v) :
  gU P o a w p v:=
 ⟨val,_,_,h,aF,uf ar _ _,fun _ au=>⟨B2 _ _,zn au _ _⟩⟩
theorem a7.nn {P:Program} {N:Nat} {o:Oper} {env:Env} {s:ao} {v:af} (ax:gJ o=true)
  (h:∀ ro B a w p,dz N B ro env s a w p→gU P o a w p v):a7 P N o env s (fun x al=>x=v∧al=s) (fun _ _=>False):=by
 refine ⟨ax,fun ro B a w p aI=>?_⟩;obtain ⟨val,w',bk,cN,aF,hle,aD⟩:=h ro B a w p aI;rw [cN];obtain ⟨kv,ik⟩:=aD s aI.wf;exact ⟨s,bk,hle,kv,ik,v,⟨rfl,rfl⟩,aF⟩
theorem gV {P:Program} {x:Sem Value} {v:Value} {w w':World} (h:x.run P w = .ok v w'):(do pure (.value (← x)):Sem Next).run P w = .ok (.value v) w':=by
 simp only [aa',h,g9,ac5]
theorem lo (b o n:Nat):(⟨b,o,none⟩:Addr).add n=⟨b,o+n,none⟩:=by
 unfold Addr.add;split<;>simp_all
theorem Jh {w:World} {p:bT} {vs:List Value} {cells r:List af} {off:Nat} (aF:bF w p vs cells) (h:qo off cells=some r):bF w p (vs.drop off) r:=by
 rw [Qr h];exact aF.drop off
theorem zs {P:Program} {Γ:cz} (aP:bQ P Γ) {t:TypeId} {i:bN} (aQ:Γ.get? t=some i) {w:World} {p:bT} {b base off:Nat} {vs:List Value} {cells:List af} {v:af}
  (aA:∀ j u,vs[j]? = some u→w.cell? ⟨b,base+j,none⟩=some u) (aF:bF w p vs cells) (h:hO i cells off=some v) :
  ∃ val,(loadVar t ⟨b,base+off,none⟩).run P w = .ok val w∧Rel w p val v:=by
 obtain ⟨info,d,U,ae,an,bd,-⟩:=aP.parts aQ;unfold hO at h;split at h
 ·cases h
 ·rename_i r ax
  have jr:=Jh aF ax;have jH:∀ j u,(vs.drop off)[j]? = some u→w.cell? ((⟨b,base+off,none⟩:Addr).add j)=some u:=by
   intro j u hu;rw [lo,al3];exact aA _ _ (by simpa using hu)
  split at h
  ·rename_i gK bs
   split at h
   ·rename_i cs hD
    cases h;obtain ⟨rfl,hlen⟩:=B4 hD;obtain ⟨f,rfl,-⟩:=zo (an.trans bs);have aB:((vs.drop off).take i.size).length=info.size:=by rw [ac8,jr.length,bd];omega
    have zt:=run_loadCells_list (P:=P) w ⟨b,base+off,none⟩ ((vs.drop off).take i.size) (fun j u hu=>jH j u (by
     rw [af'] at hu;split at hu;exact hu;cases hu))
    rw [aB] at zt;refine ⟨_,?_,.agg _ _ (by simpa using jr.take i.size)⟩;simp only [loadVar,aa',xR ae,g9,vE,if_true,sizeOf,typeInfo,run_program,U,ac5,zt]
   ·cases h
  ·rename_i Ji jI bs
   split at h
   ·rename_i cs hD
    cases h;obtain ⟨rfl,hlen⟩:=B4 hD;obtain rfl:=zp (an.trans bs);have aB:((vs.drop off).take i.size).length=info.size:=by rw [ac8,jr.length,bd];omega
    have zt:=run_loadCells_list (P:=P) w ⟨b,base+off,none⟩ ((vs.drop off).take i.size) (fun j u hu=>jH j u (by
     rw [af'] at hu;split at hu;exact hu;cases hu))
    rw [aB] at zt;refine ⟨_,?_,.agg _ _ (by simpa using jr.take i.size)⟩;simp only [loadVar,aa',xR ae,g9,vE,if_true,sizeOf,typeInfo,run_program,U,ac5,zt]
   ·cases h
  ·cases h
  ·rename_i au a8 ah
   split at h
   ·rename_i x xs
    cases h;generalize Jj:vs.drop off=Qy at jr jH;cases jr with
    | cons u _ us _ ab aN=>
    have Ca:=jH 0 u C;rw [lo,ap6] at Ca;refine ⟨u,?_,ab⟩;have EU:=Je (d:=d) (fun gK=>by rw [an];exact au gK) (fun n e=>by rw [an];exact a8 n e) (by rw [an];exact ah);simp [loadVar,xR ae,EU,Ca]
   ·cases h
theorem Qz {P:Program} {Γ:cz} (aP:bQ P Γ) {t:TypeId} {i:bN} (aQ:Γ.get? t=some i) {w:World} {p:bT} {off:Nat} {vs:Array Value} {cells:List af} {v:af}
  (aF:bF w p vs.toList cells) (h:hO i cells off=some v):∃ val,(part t vs off).run P w = .ok val w∧Rel w p val v:=by
 obtain ⟨info,d,U,ae,an,bd,-⟩:=aP.parts aQ;unfold hO at h;split at h
 ·cases h
 ·rename_i r ax
  have jr:=Jh aF ax;split at h
  ·rename_i gK bs
   split at h
   ·rename_i cs hD
    cases h;obtain ⟨rfl,hlen⟩:=B4 hD;obtain ⟨f,rfl,-⟩:=zo (an.trans bs);refine ⟨.agg (vs.extract off (off+info.size)),?_,.agg _ _ ?_⟩
    ·simp only [part,aa',xR ae,g9,vE,if_true,sizeOf,typeInfo,run_program,U,ac5]
    ·have:(vs.extract off (off+info.size)).toList=(vs.toList.drop off).take i.size:=by simp [as3,bd]
     rw [this];exact jr.take i.size
   ·cases h
  ·rename_i Ji jI bs
   split at h
   ·rename_i cs hD
    cases h;obtain ⟨rfl,hlen⟩:=B4 hD;obtain rfl:=zp (an.trans bs);refine ⟨.agg (vs.extract off (off+info.size)),?_,.agg _ _ ?_⟩
    ·simp only [part,aa',xR ae,g9,vE,if_true,sizeOf,typeInfo,run_program,U,ac5]
    ·have:(vs.extract off (off+info.size)).toList=(vs.toList.drop off).take i.size:=by simp [as3,bd]
     rw [this];exact jr.take i.size
   ·cases h
  ·cases h
  ·rename_i au a8 ah
   split at h
   ·rename_i x xs
    cases h;generalize Jj:vs.toList.drop off=Qy at jr;cases jr with
    | cons u _ us _ ab aN=>
    have br:vs[off]? = some u:=by
     have:=congrArg (fun l=>l[0]?) Jj;simpa using this
    refine ⟨u,?_,ab⟩;have EU:=Je (d:=d) (fun gK=>by rw [an];exact au gK) (fun n e=>by rw [an];exact a8 n e) (by rw [an];exact ah);simp [part,xR ae,EU,br]
   ·cases h
theorem QA {w:World} {p:bT}:∀ (us:List Value) (cs:List af) (off:Nat) (vs:List Value) (xs:List af),bF w p us cs→bF w p vs xs →
  bF w p ((us.zipIdx).foldl (fun l (c,j)=>l.set (off+j) c) vs) (eU off cs xs):=by
 have key:∀ (us:List Value) (cs:List af) (off k:Nat) (vs:List Value) (xs:List af),bF w p us cs→bF w p vs xs →
   bF w p ((us.zipIdx k).foldl (fun l (c,j)=>l.set (off+j) c) vs) (eU (off+k) cs xs):=by
  intro us
  induction us with
  | nil=>intro cs off k vs xs h av;cases h;exact av
  | cons u us a6=>
   intro cs off k vs xs h av;cases h with
   | cons _ c _ cs aA aN=>
    simp only [at8,af2,eU];have:=a6 cs off (k+1) _ _ aN (av.set (off+k) aA);rwa [← al3] at this
 intro us cs off vs xs h av;simpa using key us cs off 0 vs xs h av
theorem Jk (l:List (Value×Nat)) (off:Nat):∀ (vs:Array Value),(l.foldl (fun cs (c,j)=>cs.setIfInBounds (off+j) c) vs).toList=l.foldl (fun cs (c,j)=>cs.set (off+j) c) vs.toList:=by
 induction l with
 | nil=>intro vs;rfl
 | cons x l a6=>intro vs;simp only [af2,a6,Array.toList_setIfInBounds]
theorem Jl {w:World} {p:bT} {place:Nat→Option (Nat×Nat)}:∀ (ps:List (Nat×Value)) (np:List (Nat×af)) (vs:Array Value) (xs r:List af),
  ps.map (·.1)=np.map (·.1)→bF w p (ps.map (·.2)) (np.map (·.2))→bF w p vs.toList xs→vI place xs np=some r →
  ∃ cs,Instr.fill place vs ps=some cs∧bF w p cs.toList r:=by
 intro ps
 induction ps with
 | nil=>
  intro np vs xs r U ae an h;cases np with
  | nil=>cases h;exact ⟨vs,rfl,an⟩
  | cons q np=>simp at U
 | cons x ps a6=>
  intro np vs xs r U ae an h;cases np with
  | nil=>simp at U
  | cons q np=>
   obtain ⟨i,v⟩:=x;obtain ⟨B3,u⟩:=q;simp only [ac4,List.cons.injEq] at U;obtain ⟨rfl,U⟩:=U;simp only [ac4] at ae;cases ae with
   | cons _ _ _ _ av aN=>
   simp only [vI] at h;split at h
   ·rename_i off size cs aE hD
    split at h
    ·rename_i uh
     simp only [f7] at uh;have ca:=ac1 uh.1;have hle:=al4 uh.2;have nq:=qn av hD;have eL:v.cells.size=size:=by rw [← ca,← nq.length,ac7]
     have cY:vs.size=xs.length:=by rw [← an.length,ac7]
     have Jm:=QA _ _ off _ _ nq an;have bO:v.cells.toList.zipIdx=(v.cells.zipIdx).toList:=by simp
     rw [bO,← Jk] at Jm;obtain ⟨out,ah,zu⟩:=a6 np _ _ r U aN Jm h;refine ⟨out,?_,zu⟩;simp only [Instr.fill,aE];rw [d9 (by simp [eL];omega),← ah,← at2]
    ·cases h
   ·cases h
theorem Jn {N:Nat} {B:fP} {ro:Option Nat} {env:Env} {s:ao} {a:Act} {w:World} {p:bT} (aI:dz N B ro env s a w p) {l:List (Nat×Operand)} {np:List (Nat×af)}
  (h:vJ env l=some np):(l.map fun x=>(x.1,a.eval x.2)).map (·.1)=np.map (·.1)∧bF w p ((l.map fun x=>(x.1,a.eval x.2)).map (·.2)) (np.map (·.2)):=by
 induction l generalizing np with
 | nil=>cases h;exact ⟨rfl,.nil⟩
 | cons x l a6=>
  obtain ⟨i,o⟩:=x;simp only [vJ] at h;split at h
  ·rename_i v av
   split at h
   ·rename_i r aF
    cases h;obtain ⟨U,ae⟩:=a6 aF;exact ⟨by simp only [ac4,U],.cons _ _ _ _ (aI.aL av) ae⟩
   ·cases h
  ·cases h
theorem QB {P:Program} {Γ:cz} (aP:bQ P Γ) (gK:List Field):∀ {pl:List (Nat×Nat)},placesOf Γ (gK.map fun x=>(x.offset,x.type))=some pl →
  gK.mapM (fun f=>(P.info? f.type).map fun i=>(f.offset,i.size))=some pl:=by
 induction gK with
 | nil=>intro pl h;cases h;rfl
 | cons f gK a6=>
  intro pl h;simp only [ac4,placesOf] at h;split at h
  ·rename_i i aQ
   split at h
   ·rename_i l aB
    cases h;obtain ⟨info,d,U,-,-,bd,-⟩:=aP.parts aQ;simp [av3,U,a6 aB,bd]
   ·cases h
  ·cases h
theorem Jo (sz:Nat):∀ (vs:List Value) (k:Nat) (pre post:List Value),pre.length=k*sz→post.length=vs.length*sz→(∀ v∈vs,v.cells.size=sz) →
  Instr.fill (fun i=>some (i*sz,sz)) (pre++post).toArray ((vs.zipIdx k).map fun x=>(x.2,x.1))=some (pre++flat vs).toArray:=by
 intro vs
 induction vs with
 | nil=>intro k pre post U ae an;have:post=[]:=af5 qg;subst this;simp [Instr.fill,flat]
 | cons v vs a6=>
  intro k pre post U ae an;have av:=an v (i7 ..);simp only [at8,ac4,Instr.fill];have hlen:post.length=sz+vs.length*sz:=by rw [ae,i8,ah'];omega
  rw [d9 (by simp [av];omega)];have vK:(Array.foldl (fun cs x=>cs.setIfInBounds (k*sz+x.2) x.1) (pre++post).toArray v.cells.zipIdx)=((pre++v.cells.toList)++post.drop sz).toArray:=by
   apply am';rw [← at2];have:=Jk v.cells.zipIdx.toList (k*sz) (pre++post).toArray;simp only at this ⊢;rw [this];have bO:v.cells.zipIdx.toList=v.cells.toList.zipIdx:=by simp
   rw [bO];have gen:∀ (us:List Value) (j:Nat) (a b:List Value),a.length=k*sz+j→us.length≤b.length →
     (us.zipIdx j).foldl (fun cs (x:Value×Nat)=>cs.set (k*sz+x.2) x.1) (a++b)=a++us++b.drop us.length:=by
    intro us
    induction us with
    | nil=>intro j a b _ _;simp
    | cons u us QC=>
     intro j a b a8 aq;cases b with
     | nil=>simp at aq
     | cons c b=>
      simp only [at8,af2,i8,as6];have:(a++c::b).set (k*sz+j) u=(a++[u])++b:=by
       rw [List.set_append_right _ _ ag];have:k*sz+j-a.length=0:=by omega
       rw [this];simp
      rw [this,QC (j+1) (a++[u]) b cE (by simpa using aq)];simp
   have ft:v.cells.toList.length=sz:=by rw [ac7,av]
   have:=gen v.cells.toList 0 pre post ag (by rw [ft];omega);rw [ft] at this;simpa using this
  rw [vK];have:=a6 (k+1) (pre++v.cells.toList) (post.drop sz) (by simp [U,av,ah']) (by rw [ag2,hlen];omega) (fun u hu=>an u (i5 _ hu));rw [this];simp [flat,ah4]
theorem QD {N:Nat} {B:fP} {ro:Option Nat} {env:Env} {s:ao} {a:Act} {w:World} {p:bT} (aI:dz N B ro env s a w p) {sz:Nat}:∀ {l:List (Nat×Operand)} {k:Nat} {xs:List af},
    zr env sz k l=some xs→∃ vs:List Value,(l.map fun x=>(x.1,a.eval x.2))=(vs.zipIdx k).map (fun x=>(x.2,x.1))∧bF w p vs xs∧(∀ v∈vs,v.cells.size=sz)∧vs.length=l.length:=by
  intro l
  induction l with
  | nil=>intro k xs h;cases h;exact ⟨[],rfl,.nil,by simp,rfl⟩
  | cons x l a6=>
    intro k xs h;obtain ⟨i,o⟩:=x;simp only [zr] at h;split at h
    · rename_i aq
      split at h
      · rename_i v av
        split at h
        · rename_i cs hD
          split at h
          · rename_i aB
            split at h
            · rename_i r aF
              cases h;have:=ac1 aq;subst this;obtain ⟨vs,U,ae,an,bd⟩:=a6 aF;have eR:=aI.aL av;have ca:(a.eval o).cells.size=sz:=by
                rw [← ac1 aB,← (qn eR hD).length,ac7]
              exact ⟨a.eval o::vs,by simp [U],.cons _ _ _ _ eR ae,by
                intro u hu;rcases ad1.1 hu with rfl|hu;exact ca;exact an u hu,by simp [bd]⟩
            · cases h
          · cases h
        · cases h
      · cases h
    · cases h
section
variable {P:Program} {Γ:cz} (aP:bQ P Γ) {N:Nat} {B:fP} {ro:Option Nat} {env:Env} {s:ao} {a:Act} {w:World} {p:bT} (aI:dz N B ro env s a w p)
include aI
theorem Jp {o:Oper} {x:Operand} {v:af} (ah:o.op = .move x∨o.op = .assign x) (h:aL env x=some v):gU P o a w p v:=by
 refine .same (val:=a.eval x) ?_ (aI.aL h);unfold execOp;rcases ah with ah|ah<;>rw [ah]<;>rfl
theorem Jq {o:Oper} {c x y:Operand} {v:af} {t:Bool} (ah:o.op = .pick c x y) (aA:aL env c=some (.bool t)) (h:aL env (if t then x else y)=some v):gU P o a w p v:=by
 refine .same (val:=a.eval (if t then x else y)) ?_ (aI.aL h);unfold execOp;rw [ah];simp only [B1 (aI.aL aA),asBool,aa',ac5,g9];cases t<;>rfl
include aP
theorem QE {o:Oper} {op:BinOp} {t yt:TypeId} {x y:Operand} {u v r:af} (ah:o.op = .binOp op t x y yt) (ab:aL env x=some u) (ay:aL env y=some v)
  (h:B7 Γ op t y u v=some r):gU P o a w p r:=by
 obtain ⟨val,U,ae⟩:=Qw aP aI (yt:=yt) ab ay h;refine .same (val:=val) ?_ ae;unfold execOp;rw [ah];exact gV U
omit aP in
theorem QF {o:Oper} {t:TypeId} {x:Operand} {b:Bool} (ah:o.op = .unOp .not t x) (ab:aL env x=some (.bool b)):gU P o a w p (.bool (!b)):=by
 refine .same (val := .bool (!b)) ?_ (.bool _);unfold execOp;rw [ah];simp only [B1 (aI.aL ab)];exact gV (by simp [Op.unary])
omit aP in
theorem QG {o:Oper} {x:Operand} {i:Nat} {vs:List af} {v:af} (ah:o.op = .extract x i) (ab:aL env x=some (.cu vs)) (h:nth vs i=some v):gU P o a w p v:=by
 have aF:=aI.aL ab;generalize av:a.eval x=dX at aF;cases aF with
 | cu us _ aB=>
 rw [xQ] at h;obtain ⟨u,hu,zv⟩:=aB.get h;refine .same (val:=u) ?_ zv;unfold execOp;rw [ah];simp only [av]
 exact gV (by
  have:us[i]? = some u:=by simpa using hu
  simp [Instr.extract,this])
theorem EV {o:Oper} {S:TypeId} {x:Operand} {f sz mL:Nat} {gK:List (Nat×TypeId)} {z:Value} {off:Nat} {t:TypeId} {ee:bN} {v:af} (ah:o.op = .fieldAddr S x f)
  (cj:Γ.get? S=some ⟨.struct gK,sz,mL,z⟩) (aZ:nth gK f=some (off,t)) (aN:Γ.get? t=some ee) (br:ee.size≠0)
  (h:(∃ b o,aL env x=some (.ptr b o)∧v = .ptr b (o+off))∨(∃ cs o,aL env x=some (.bA cs o)∧v = .bA cs (o+off))∨(∃ b cs,aL env x=some (.mf b cs)∧v = .bA cs off)):gU P o a w p v:=by
 obtain ⟨info,d,U,ae,an,-⟩:=aP.parts cj;obtain ⟨mK,c6,nT,nU,vH,nm,-⟩:=aP.parts aN;obtain ⟨zw,rfl,kx⟩:=zo an;rw [xQ,kx,ad2] at aZ;obtain ⟨fd,EW,EX⟩:=au7.1 aZ;cases EX;have EY:zw[f]? = some fd:=by simpa using EW
 have ca:mK.size≠0:=by rw [nm];exact br
 have key:∀ b o',a.eval x = .pointer (some ⟨b,o',none⟩)→(execOp a.eval o).run P w = .ok (.value (.pointer (some ⟨b,o'+fd.offset,none⟩))) w:=by
  intro b o' ab;unfold execOp;rw [ah];simp only [ab];refine gV ?_;simp [Instr.fieldAt,run_underlying ae,EY,Instr.sureAddr,fieldPlace,sizeOf,typeInfo,nT,ca,lo]
 rcases h with ⟨b,o',ab,rfl⟩|⟨cs,o',ab,rfl⟩|⟨b,cs,ab,rfl⟩
 ·have aF:=aI.aL ab
  generalize av:a.eval x=dX at aF;cases aF;exact .same (key _ _ av) (.ptr _ _)
 ·have aF:=aI.aL ab
  generalize av:a.eval x=dX at aF;cases aF with
  | bA b base ui off vs _ mM aA hh=>
  exact .same (key _ _ av) (.bA b base _ _ vs _ ag aA hh)
 ·have aF:=aI.aL ab
  generalize av:a.eval x=dX at aF;cases aF with
  | mf b vs _ _ _ aA hh=>
  exact .same (key _ _ av) (.bA b 0 _ _ vs _ C aA hh)
theorem QH {o:Oper} {S:TypeId} {x:Operand} {f sz mL:Nat} {gK:List (Nat×TypeId)} {z:Value} {off:Nat} {t:TypeId} {ee:bN} {cs:List af} {v:af} (ah:o.op = .field S x f)
  (cj:Γ.get? S=some ⟨.struct gK,sz,mL,z⟩) (aZ:nth gK f=some (off,t)) (aN:Γ.get? t=some ee) (ab:aL env x=some (.agg cs)) (h:hO ee cs off=some v):gU P o a w p v:=by
 obtain ⟨info,d,U,ae,an,-⟩:=aP.parts cj;obtain ⟨zw,rfl,kx⟩:=zo an;rw [xQ,kx,ad2] at aZ;obtain ⟨fd,EW,EX⟩:=au7.1 aZ;cases EX;have EY:zw[f]? = some fd:=by simpa using EW
 have aF:=aI.aL ab;generalize av:a.eval x=dX at aF;cases aF with
 | agg us _ aB=>
 obtain ⟨val,cN,eR⟩:=Qz aP aN aB h;refine .same (val:=val) ?_ eR;unfold execOp;rw [ah];simp only [av];refine gV ?_;simp [Instr.field,run_underlying ae,EY,asAgg,cN]
theorem Jr {o:Oper} {t:TypeId} {x:Operand} {i:bN} {cs:List af} {off:Nat} {v:af} (ah:o.op = .load t x) (aN:Γ.get? t=some i) (ab:aL env x=some (.bA cs off))
  (h:hO i cs off=some v):gU P o a w p v:=by
 have aF:=aI.aL ab;generalize av:a.eval x=dX at aF;cases aF with
 | bA b base ui _ vs _ mM aA hh=>
 subst mM;obtain ⟨val,cN,eR⟩:=zs aP aN (b:=b) (base:=base) (fun j u hu=>(aA j u hu).2) hh h;refine .same (val:=val) ?_ eR;unfold execOp;rw [ah];simp only [av];refine gV ?_;simp only [Instr.loadAt,Instr.sureAddr,aa',ac5,g9,cN]
theorem QI {o:Oper} {t:TypeId} {x:Operand} {i:bN} {cs:List af} {b:Nat} {v:af} (ah:o.op = .load t x) (aN:Γ.get? t=some i) (ab:aL env x=some (.mf b cs))
  (h:hO i cs 0=some v):gU P o a w p v:=by
 have aF:=aI.aL ab;generalize av:a.eval x=dX at aF;cases aF with
 | mf b vs _ _ _ aA hh=>
 obtain ⟨val,cN,eR⟩:=zs aP aN (b:=b) (base:=0) (fun j u hu=>(aA j u hu).2) hh h;refine .same (val:=val) ?_ eR;unfold execOp;rw [ah];simp only [av];refine gV ?_;simp only [Instr.loadAt,Instr.sureAddr,aa',ac5,g9];simpa using cN
theorem QJ {o:Oper} {t:TypeId} {x:Operand} {i:bN} {v:af} (ah:o.op = .makeInterface t x) (aN:Γ.get? t=some i) (aQ:∀ b,i.bG ≠ .iface b) (ab:aL env x=some v) :
  gU P o a w p (.iface t v):=by
 obtain ⟨info,d,U,ae,an,-⟩:=aP.parts aN;refine .same (val := .iface t (a.eval x)) ?_ (.iface _ _ _ (aI.aL ab));unfold execOp;rw [ah];refine gV ?_;have ax:∀ ms,d ≠ .interface ms:=fun ms e=>by subst e;exact aQ _ an.symm
 simp only [Instr.makeInterface,aa',run_underlying ae,g9];cases d<;>first|rfl|exact absurd C (ax _)
omit aP in
theorem QK {o:Oper} {f:FuncId} {first cap:Array Operand} {zx hr:List af} (ah:o.op = .makeFunc (.func f) first cap) (aZ:fQ env first.toList=some zx) (aA:fQ env cap.toList=some hr) :
  gU P o a w p (.func f zx hr):=by
 refine .same (val := .func (.func f) (first.map a.eval) (cap.map a.eval)) ?_ (.func _ _ _ _ _ (by simpa using B' aI aZ) (by simpa using B' aI aA));unfold execOp;rw [ah];exact gV C
omit aP in
theorem Cb {o:Oper} {x:Operand} {v:af} (ah:o.op = .nilCheck x) (ab:aL env x=some v) (h:(∃ b o,v = .ptr b o)∨(∃ cs o,v = .bA cs o)∨(∃ b cs,v = .mf b cs)∨(∃ f a c,v = .func f a c)):gU P o a w p v:=by
 have aF:=aI.aL ab;refine .same (val:=a.eval x) ?_ aF;unfold execOp;rw [ah];simp only [];rcases h with ⟨b,o',rfl⟩|⟨cs,o',rfl⟩|⟨b,cs,rfl⟩|⟨f,as,cs,rfl⟩<;>generalize av:a.eval x=dX at aF<;>cases aF<;>rfl
theorem Cc {o:Oper} {x:Operand} {Cd t:TypeId} {i:bN} {ok:Bool} {u v:af} (ah:o.op = .typeAssert x Cd t ok) (aN:Γ.get? t=some i) (aQ:∀ b,i.bG ≠ .iface b) (ab:aL env x=some u)
  (h:(∃ y,u = .iface t y∧v=if ok then .cu [y,.bool true] else y) ∨
   (ok=true∧(u = .nR∨∃ bH y,bH≠t∧u = .iface bH y)∧∃ z,hC i.zero=some z∧v = .cu [z,.bool false])):gU P o a w p v:=by
 obtain ⟨info,d,U,ae,an,bd,bD,fk⟩:=aP.parts aN;have ax:∀ ms,d ≠ .interface ms:=fun ms e=>by subst e;exact aQ _ an.symm
 have aF:=aI.aL ab;generalize av:a.eval x=dX at aF;have bO:(zeroValue t).run P w = .ok i.zero w:=by simp [zeroValue,typeInfo,U,fk]
 rcases h with ⟨y,rfl,rfl⟩|⟨rfl,hu,z,Ce,rfl⟩
 ·cases aF with
  | iface _ val _ ay=>
  have cN:(Instr.typeAssert (.iface t val) Cd t ok).run P w = .ok (if ok then .tuple #[val,.bool true] else val) w:=by
   cases d<;>first|exact absurd C (ax _)|(simp only [Instr.typeAssert,aa',run_underlying ae,g9,if_true,ac5])
  refine .same (val:=if ok then .tuple #[val,.bool true] else val) ?_ (by cases ok;exact ay;exact .cu _ _ (.cons _ _ _ _ ay (.cons _ _ _ _ (.bool _) .nil)));unfold execOp;rw [ah];simp only [av];exact gV cN
 ·have cN:(Instr.typeAssert dX Cd t true).run P w = .ok (.tuple #[i.zero,.bool false]) w:=by
   rcases hu with rfl|⟨bH,y,cO,rfl⟩
   ·cases aF
    cases d<;>first|exact absurd C (ax _)|(simp only [Instr.typeAssert,aa',run_underlying ae,g9,if_true,bO,ac5])
   ·cases aF
    cases d<;>first|exact absurd C (ax _)|(simp only [Instr.typeAssert,aa',run_underlying ae,g9,if_true,d9 cO,bO,ac5])
  refine .same (val := .tuple #[i.zero,.bool false]) ?_ (.cu _ _ (.cons _ _ _ _ (qp Ce) (.cons _ _ _ _ (.bool _) .nil)));unfold execOp;rw [ah];simp only [av];exact gV cN
theorem Js {o:Oper} {x:Operand} {t:TypeId} {i:bN} {u:af} {n:Nat} (ah:o.op = .call { callee := .builtin .len,args := #[x],argTypes := #[t] }) (aN:Γ.get? t=some i) (ab:aL env x=some u)
  (h:(∃ e sz xs own,i.bG = .aC e∧u = .aC sz xs own∧n=xs.length)∨(∃ l,i.bG = .str∧u = .str l∧n=l.length)):gU P o a w p (.int .i64 n):=by
 obtain ⟨info,d,U,ae,an,-⟩:=aP.parts aN;have aF:=aI.aL ab;generalize av:a.eval x=dX at aF;refine .same (val := .int .i64 n) ?_ (.int _ _);unfold execOp;rw [ah];simp only [resolve,invoke,builtin,aa',ac5,g9,ao2,ac4,ae5,av];rcases h with ⟨e,sz,xs,own,bs,rfl,rfl⟩|⟨l,bs,rfl,rfl⟩
 ·have ax:d = .slice e:=by rw [bs] at an;cases d<;>simp [ez] at an;rw [an]
  subst ax;cases aF with
  | hY=>simp [Builtin.len_,run_underlying ae,goInt]
  | iA=>simp [Builtin.len_,run_underlying ae,goInt]
  | aC g off n cap sz vs _ _ az aB aA aF au hm aD ct ah=>simp [Builtin.len_,run_underlying ae,goInt,aB]
 ·have ax:d = .string:=by rw [bs] at an;cases d<;>simp [ez] at an;rfl
  subst ax;cases aF with
  | str b _ e=>subst e;simp [Builtin.len_,run_underlying ae,goInt]
omit aP in
theorem QL {o:Oper} {t:TypeId} {x:Operand} {v:af} {cs:List af} (ah:o.op = .box t x) (ab:aL env x=some v) (aA:cellsOf v=some cs):gU P o a w p (.bA cs 0):=by
 have aF:=aI.aL ab;have nq:=qn aF aA;refine gU.alloc (a.eval x).cells t aI.wf.lt (val := .pointer (some ⟨w.heap.size,0,none⟩)) ?_ ?_
 ·unfold execOp
  rw [ah];exact gV C
 ·refine .bA _ 0 0 0 (a.eval x).cells.toList _ C ?_ (nq.mono (uf aI.wf.lt _ _))
  have:=EO (w:=w) (p:=p) (a.eval x).cells.toList t;simpa using this
theorem QM {o:Oper} {t:TypeId} {parts:Array (Nat×Operand)} {gK:List (Nat×TypeId)} {sz mL:Nat} {z:Value} {pl:List (Nat×Nat)} {a1 cs:List af} {ps:List (Nat×af)}
  (ah:o.op = .build t parts) (aN:Γ.get? t=some ⟨.struct gK,sz,mL,z⟩) (hQ:placesOf Γ gK=some pl) (bO:hC z=some (.agg a1)) (px:vJ env parts.toList=some ps)
  (h:vI (nth pl) a1 ps=some cs):gU P o a w p (.agg cs):=by
 obtain ⟨info,d,U,ae,an,bd,bD,fk⟩:=aP.parts aN;obtain ⟨zw,rfl,kx⟩:=zo an;rw [kx] at hQ;have QN:=QB aP zw.toList hQ;have EZ:=qp (w:=w) (p:=p) bO;obtain ⟨cb,b1⟩:=Jn aI px;have uj:bF w p z.cells.toList a1:=qn EZ C;have QO:(fun x=>pl.toArray[x]?)=nth pl:=by funext x;rw [xQ];simp
 obtain ⟨out,sS,qq⟩:=Jl _ _ z.cells a1 cs cb b1 uj h;refine .same (val := .agg out) ?_ (.agg _ _ qq);unfold execOp;rw [ah];refine gV (run_build w t _ out ?_);unfold Program.built;simp only [U,ae,fk,QN];rw [QO];simpa using sS
theorem QP {o:Oper} {t e:TypeId} {n:Nat} {parts:Array (Nat×Operand)} {sz mL:Nat} {z:Value} {aG:bN} {a1 cs:List af} {ps:List (Nat×af)}
  (ah:o.op = .build t parts) (aN:Γ.get? t=some ⟨.arr n e,sz,mL,z⟩) (he:Γ.get? e=some aG) (bO:hC z=some (.agg a1)) (px:vJ env parts.toList=some ps)
  (h:vI (fun i=>some (i*aG.size,aG.size)) a1 ps=some cs):gU P o a w p (.agg cs):=by
 obtain ⟨info,d,U,ae,an,bd,bD,fk⟩:=aP.parts aN;obtain ⟨mK,c6,nT,nU,vH,nm,Jt,Cf⟩:=aP.parts he;obtain rfl:=zp an;have EZ:=qp (w:=w) (p:=p) bO;obtain ⟨cb,b1⟩:=Jn aI px;have uj:bF w p z.cells.toList a1:=qn EZ C;obtain ⟨out,sS,qq⟩:=Jl _ _ z.cells a1 cs cb b1 uj h;refine .same (val := .agg out) ?_ (.agg _ _ qq);unfold execOp;rw [ah];refine gV (run_build w t _ out ?_);unfold Program.built;simp only [U,ae,fk,nT,nm];simpa using sS
theorem QQ {o:Oper} {t e:TypeId} {len:Nat} {parts:Array (Nat×Operand)} {sz mL:Nat} {z:Value} {aG:bN} {xs:List af}
  (ah:o.op = .buildSlice t len parts) (aN:Γ.get? t=some ⟨.aC e,sz,mL,z⟩) (he:Γ.get? e=some aG) (hlen:parts.size=len) (Cg:len*aG.size≤16777216) (abu:len≤16777216)
  (h:zr env aG.size 0 parts.toList=some xs):gU P o a w p (.aC aG.size xs .clip):=by
 obtain ⟨info,d,U,ae,an,-⟩:=aP.parts aN;obtain ⟨mK,c6,nT,nU,vH,nm,Jt,Cf⟩:=aP.parts he;have ax:d = .slice e:=by cases d<;>simp [ez] at an;rw [an]
 subst ax;obtain ⟨vs,cb,b1,eV,nV⟩:=QD aI h;have ft:vs.length=len:=by rw [nV,ac7,hlen]
 have kx:(flat vs).length=len*aG.size:=by
  rw [← ft];clear cb b1 nV ft h
  induction vs with
  | nil=>simp [flat]
  | cons v vs a6=>
   have:=a6 (fun u hu=>eV u (i5 _ hu));simp only [flat,ah4,f8,ac7,i8] at this ⊢;rw [eV v (i7 ..)];have eX:(aA2 (fun v=>v.cells.toList) vs).length=vs.length*aG.size:=this;rw [eX,ah'];omega
 have sS:∀ sT:Array Value,sT.size=len*aG.size→Instr.fill (fun i=>some (i*aG.size,aG.size)) sT (parts.map fun x=>(x.1,a.eval x.2)).toList=some (flat vs).toArray:=by
  intro sT oM;have:=Jo aG.size vs 0 [] sT.toList ba (by rw [ac7,oM,ft]) eV;simp only [d8] at this;rw [Array.toList_map,cb];simpa using this
 refine gU.alloc (flat vs).toArray e aI.wf.lt (val := .slice (some ⟨w.heap.size,0,none⟩) len len) ?_ ?_
 ·unfold execOp
  rw [ah];refine gV ?_;have abv:¬ (16777216<len*aG.size):=by omega
  have py:¬ (len*aG.size>2^24):=by omega
  unfold Instr.buildSlice;simp only [aa',run_underlying ae,g9,sizeOf,typeInfo,run_program,nT,ac5,nm,d9 py];by_cases br:len*aG.size=0
  ·rw [f9 br,aa',ac5,g9,sS _ ba]
   rfl
  ·rw [d9 br]
   simp only [zeroValue,typeInfo,aa',run_program,nT,Cf,ac5,g9];rw [sS _ ba];rfl
 ·refine .aC _ 0 _ _ _ vs _ _ ba (by rw [← b1.length,ft]) ?_ (b1.mono (uf aI.wf.lt _ _)) eV ?_ (i0 _) (fun _=>rfl) (fun b aq=>by cases aq)
  ·exact EO (w:=w) (p:=p) (flat vs) e
  ·omega
theorem Ju {o:Oper} {v:af} (h:pw Γ o env=some v):gU P o a w p v:=by
 unfold pw at h;split at h
 ·rename_i x ah;exact Jp aI (.inl ah) h
 ·rename_i x ah;exact Jp aI (.inr ah) h
 ·rename_i c x y ah
  split at h
  ·rename_i aA;exact Jq aI (t:=true) ah aA h
  ·rename_i aA;exact Jq aI (t:=false) ah aA h
  ·cases h
 ·rename_i op t x y yt ah
  split at h
  ·rename_i u fz ab ay;exact QE aP aI ah ab ay h
  ·cases h
 ·rename_i t x ah
  split at h
  ·rename_i b aq;cases h;exact QF aI ah aq
  ·cases h
 ·rename_i x i ah
  split at h
  ·rename_i vs ab;exact QG aI ah ab h
  ·cases h
 ·rename_i S x f ah
  split at h
  ·rename_i gK sz mL z cj
   split at h
   ·rename_i off t aZ
    split at h
    ·rename_i bG n QR acA aN
     split at h
     ·rename_i b o' ab;cases h;exact EV aP aI ah cj aZ aN ba (.inl ⟨_,_,ab,rfl⟩)
     ·rename_i cs o' ab;cases h;exact EV aP aI ah cj aZ aN ba (.inr (.inl ⟨_,_,ab,rfl⟩))
     ·rename_i b cs ab;cases h;exact EV aP aI ah cj aZ aN ba (.inr (.inr ⟨_,_,ab,rfl⟩))
     ·cases h
    ·cases h
   ·cases h
  ·cases h
 ·rename_i S x f ah
  split at h
  ·rename_i gK sz mL z cj
   split at h
   ·rename_i off t aZ
    split at h
    ·rename_i i aN
     split at h
     ·rename_i cs ab;exact QH aP aI ah cj aZ aN ab h
     ·cases h
    ·cases h
   ·cases h
  ·cases h
 ·rename_i t x ah
  split at h
  ·rename_i i aN
   split at h
   ·rename_i cs o' ab;exact Jr aP aI ah aN ab h
   ·rename_i b cs ab;exact QI aP aI ah aN ab h
   ·cases h
  ·cases h
 ·rename_i t x ah
  split at h
  ·cases h
  ·rename_i i E0 aN
   split at h
   ·rename_i u ab;cases h;exact QJ aP aI ah aN (fun b e=>by obtain ⟨di,a2,a3,a4⟩:=i;simp only at e;subst e;exact E0 _ _ _ _ C) ab
   ·cases h
  ·cases h
 ·rename_i f first cap ah
  split at h
  ·rename_i zx hr U ae;cases h;exact QK aI ah U ae
  ·cases h
 ·rename_i x ah
  split at h
  ·rename_i b o' ab;cases h;exact Cb aI ah ab (.inl ⟨_,_,rfl⟩)
  ·rename_i cs o' ab;cases h;exact Cb aI ah ab (.inr (.inl ⟨_,_,rfl⟩))
  ·rename_i b cs ab;cases h;exact Cb aI ah ab (.inr (.inr (.inl ⟨_,_,rfl⟩)))
  ·rename_i f zx hr ab;cases h;exact Cb aI ah ab (.inr (.inr (.inr ⟨_,_,_,rfl⟩)))
  ·cases h
 ·rename_i x Cd t ok ah
  split at h
  ·cases h
  ·rename_i i E0 aN
   have Ch:∀ b,i.bG ≠ .iface b:=fun b e=>by obtain ⟨di,a2,a3,a4⟩:=i;simp only at e;subst e;exact E0 _ _ _ _ C
   split at h
   ·rename_i bH u ab
    split at h
    ·rename_i aq;cases h;have:=ac1 aq;subst this;exact Cc aP aI ah aN Ch ab (.inl ⟨u,rfl,rfl⟩)
    ·rename_i aq;cases h;have:=ac1 aq;subst this;exact Cc aP aI ah aN Ch ab (.inl ⟨_,rfl,rfl⟩)
    ·rename_i aq
     split at h
     ·rename_i z bO;cases h
      exact Cc aP aI ah aN Ch ab (.inr ⟨rfl,.inr ⟨bH,u,(fun e=>by subst e;simp at aq),rfl⟩,z,bO,rfl⟩)
     ·cases h
    ·cases h
   ·rename_i ab
    split at h
    ·split at h
     ·rename_i z bO;cases h
      exact Cc aP aI ah aN Ch ab (.inr ⟨rfl,.inl C,z,bO,rfl⟩)
     ·cases h
    ·cases h
   ·cases h
  ·cases h
 ·rename_i args argTypes ah
  split at h
  ·rename_i x t U ae
   have cb:args = #[x]:=by apply am';simpa using U
   have b1:argTypes = #[t]:=by apply am';simpa using ae
   subst cb;subst b1;split at h
   ·rename_i e sz mL z aN
    split at h
    ·rename_i sz' xs own ab;cases h;exact Js aP aI ah aN ab (.inl ⟨_,_,_,_,rfl,rfl,rfl⟩)
    ·cases h
   ·rename_i sz mL z aN
    split at h
    ·rename_i l ab;cases h;exact Js aP aI ah aN ab (.inr ⟨_,rfl,rfl,rfl⟩)
    ·cases h
   ·cases h
  ·cases h
 ·rename_i t x ah
  split at h
  ·rename_i u ab
   split at h
   ·rename_i cs aA;cases h;exact QL aI ah ab aA
   ·cases h
  ·cases h
 ·rename_i t parts ah
  split at h
  ·rename_i gK sz mL z aN
   split at h
   ·rename_i pl a1 ps hQ bO px
    split at h
    ·rename_i cs hD;cases h;exact QM aP aI ah aN hQ bO px hD
    ·cases h
   ·cases h
  ·rename_i Ji jI sz mL z aN
   split at h
   ·rename_i aG a1 ps he bO px
    split at h
    ·rename_i cs hD;cases h;exact QP aP aI ah aN he bO px hD
    ·cases h
   ·cases h
  ·cases h
 ·rename_i t len parts ah
  split at h
  ·rename_i e sz mL z aN
   split at h
   ·rename_i aG he
    split at h
    ·rename_i uh
     simp only [f7] at uh;split at h
     ·rename_i xs cY;cases h
      exact QQ aP aI ah aN he (ac1 uh.1) (al4 uh.2.1) (al4 uh.2.2) cY
     ·cases h
    ·cases h
   ·cases h
  ·cases h
 ·cases h
omit aI aP in
theorem Jv {o:Oper} {v:af} (h:pw Γ o env=some v):gJ o=true:=by
 unfold gJ;cases ah:o.op<;>first|rfl|(unfold pw at h;rw [ah] at h;cases h)
omit aI in
theorem a7.pw {o:Oper} {v:af} (h:cW.pw Γ o env=some v):a7 P N o env s (fun x al=>x=v∧al=s) (fun _ _=>False):=
 a7.nn (Jv h) fun _ _ _ _ _ aI=>Ju aP aI h
omit aI in
theorem fH.step {ops:Array Oper} {Q:b8→Env→ao→Prop} {i:Nat} {l:List Nat} {o:Oper} {d:Nat} {v:af} (ah:ops[i]? = some o) (aw:guardOf ops env o=some true)
  (ax:o.dst=some d) (aW:t6 d N=true) (av:cW.pw Γ o env=some v) (h:fH P N ops l Q ((d,v)::env) s):fH P N ops (i::l) Q env s:=
 fH.op ah aw ax aW (a7.pw aP av) (fun x al ⟨U,ae⟩=>by subst U;subst ae;exact h) (fun _ _ h=>h.elim)
end
def ao.set (s:ao) (b:Nat) (o:dG):ao:=fun aX=>if aX=b then some o else s aX
def ao.del (s:ao) (b:Nat):ao:=fun aX=>if aX=b then none else s aX
theorem ao.gu (s:ao) (b:Nat) (o:dG):s.set b o b=some o:=by simp [ao.set]
theorem ao.fA (s:ao) {b aX:Nat} (o:dG) (h:aX≠b):s.set b o aX=s aX:=by simp [ao.set,h]
theorem ao.nr (s:ao) (b:Nat):s.del b b=none:=by simp [ao.del]
theorem ao.mN (s:ao) {b aX:Nat} (h:aX≠b):s.del b aX=s aX:=by simp [ao.del,h]
theorem ao.uk {s:ao} {b aX:Nat} {o:dG} (h:s.set b o aX=none):aX≠b∧s aX=none:=by
 unfold ao.set at h;split at h
 ·cases h
 ·exact ⟨‹_›,h⟩
theorem ao.vL (s:ao) (b:Nat) (o:dG) (h:s b=none):ao.Sub s (s.set b o):=fun aX=>by
 by_cases e:aX=b
 ·subst e;exact .inr h
 ·exact .inl (by rw [ao.fA _ _ e])
theorem ao.oN (s:ao):ao.Sub s s:=fun _ => .inl rfl
theorem ao.Sub.trans {a b c:ao} (h:ao.Sub a b) (k:ao.Sub b c):ao.Sub a c:=fun x=>by
 rcases h x with e|e
 ·rcases k x with e'|e'
  ·exact .inl (e.trans e')
  ·exact .inr (e.trans e')
 ·exact .inr e
theorem ao.zy (s:ao) (b:Nat) (o:dG) (h:s b=none):(s.set b o).del b=s:=by
 funext aX;by_cases e:aX=b
 ·subst e;simp [ao.del,h]
 ·simp [ao.del,ao.set,e]
theorem ao.set_set (s:ao) (b:Nat) (o o':dG):(s.set b o).set b o'=s.set b o':=by
 funext aX;by_cases e:aX=b<;>simp [ao.set,e]
theorem ql.lt {w:World} {p:bT} {b:Nat} {o:dG} (h:ql w p b o):b<w.heap.size:=by
 cases o with
 | box t cs=>obtain ⟨vs,U,-⟩:=h;exact (i9.1 U).1
 | row t sz n=>obtain ⟨vs,U,-⟩:=h;exact (i9.1 U).1
 | map es=>obtain ⟨vs,c,U,-⟩:=h;exact (i9.1 U).1
 | ll es it l c=>obtain ⟨_,_,_,U,-⟩:=h;exact (i9.1 U).1
 | tick m=>obtain ⟨_,_,_,U⟩:=h;exact (i9.1 U).1
 | loop r env=>exact (i9.1 h.1).1
theorem rD {w:World} {p:bT} {s:ao} (cd:dq w p s) (o:Obj) (x:dG) (ab:∀ w':World,w'.heap[w.heap.size]? = some o→(∀ v y,Rel w p v y→Rel w' p v y)→(∀ vs ys,bF w p vs ys→bF w' p vs ys)→ql w' p w.heap.size x) :
  s w.heap.size=none∧de w p (w.alloc o) p∧Kept s (s.set w.heap.size x) w p (w.alloc o) p∧dq (w.alloc o) p (s.set w.heap.size x):=by
 have az:s w.heap.size=none:=by
  cases h:s w.heap.size with
  | none=>rfl
  | some o'=>exact absurd (cd.obj _ _ h).lt ag
 have hle:de w p (w.alloc o) p:=de.of_heap C C C ba (fun _ _ h=>h) cd.lt (fun b aq=>mg w o b aq);refine ⟨az,hle,⟨fun b aq _=>mg w o b aq,fun b aq au=>by rw [ao.fA _ _ ag];exact au,fun _ _ _ _ h=>h⟩,?_⟩;have aw:=cd.grow hle (fun b aq=>mg w o b aq) (fun _ _ _ h=>h) (fun b o aE=>by have:=cd.lt b o aE;simp;omega);refine ⟨fun b o' aq=>?_,aw.lt⟩;by_cases e:b=w.heap.size
 ·subst e
  rw [ao.gu] at aq;cases aq;exact ab _ (ue w o) (fun _ _ h=>h.mono hle) (fun _ _ h=>h.mono hle)
 ·rw [ao.fA _ _ e] at aq
  exact aw.obj b o' aq
section
variable {P:Program} {Γ:cz} {N:Nat} {env:Env} {s:ao}
theorem a7.ky {o:Oper} {K X:af→ao→Prop} (ax:gJ o=true)
  (h:∀ ro B a w p,dz N B ro env s a w p→∃ val w' al bk x,(execOp a.eval o).run P w = .ok (.value val) w'∧de w p w' bk∧Kept s al w p w' bk∧dq w' bk al∧K x al∧Rel w' bk val x) :
  a7 P N o env s K X:=by
 refine ⟨ax,fun ro B a w p aI=>?_⟩;obtain ⟨val,w',al,bk,x,aF,U,ae,an,bd,bD⟩:=h ro B a w p aI;rw [aF];exact ⟨al,bk,U,ae,an,x,bd,bD⟩
theorem a7.E1 {o:Oper} {K X:af→ao→Prop} (ax:gJ o=true)
  (h:∀ ro B a w p,dz N B ro env s a w p→∃ w' al bk,(execOp a.eval o).run P w = .ok .skip w'∧de w p w' bk∧Kept s al w p w' bk∧dq w' bk al∧K (.cu []) al) :
  a7 P N o env s K X:=by
 refine ⟨ax,fun ro B a w p aI=>?_⟩;obtain ⟨w',al,bk,aF,U,ae,an,bd⟩:=h ro B a w p aI;rw [aF];exact ⟨al,bk,U,ae,an,_,bd,EN⟩
theorem a7.alloc (aP:bQ P Γ) {o:Oper} {t:TypeId} {i:bN} {z:af} {cs:List af} (ah:o.op = .alloc t) (aN:Γ.get? t=some i) (bO:hC i.zero=some z) (aA:cellsOf z=some cs) {X:af→ao→Prop} :
  a7 P N o env s (fun x al=>∃ b,s b=none∧x = .ptr b 0∧al=s.set b (.box t cs)) X:=by
 refine a7.ky (by simp [gJ,ah]) fun ro B a w p aI=>?_
 obtain ⟨info,d,U,ae,an,bd,bD,fk⟩:=aP.parts aN
 obtain ⟨az,hle,aD,cd⟩:=rD aI.wf (.cells i.zero.cells t (0,0)) (.box t cs) (fun w' iO aF hh=>
  ⟨i.zero.cells,iO,hh _ _ (qn (qp bO) aA),fun o' aE=>absurd (aI.wf.lt _ _ aE) ag⟩)
 refine ⟨.pointer (some ⟨w.heap.size,0,none⟩),_,_,p,_,?_,hle,aD,cd,⟨w.heap.size,az,rfl,rfl⟩,.ptr _ _⟩;unfold execOp;rw [ah];refine gV ?_;simp [Instr.alloc,zeroValue,typeInfo,U,fk,newVar,newRow]
theorem jJ {w:World} {b:Nat} {vs:Array Value} {t:TypeId} {hg:Nat×Nat} (h:w.heap[b]? = some (.cells vs t hg)) (j:Nat):w.cell? ⟨b,j,none⟩=vs[j]?:=by
 simp [World.cell?,h]
theorem a7.um (aP:bQ P Γ) {o:Oper} {t T:TypeId} {x:Operand} {i:bN} {b off:Nat} {cs:List af} {v:af} (ah:o.op = .load t x) (aN:Γ.get? t=some i) (ab:aL env x=some (.ptr b off))
  (au:s b=some (.box T cs)) (h:hO i cs off=some v) {X:af→ao→Prop}:a7 P N o env s (fun x al=>x=v∧al=s) X:=by
 refine a7.ky (by simp [gJ,ah]) fun ro B a w p aI=>?_
 have aF:=aI.aL ab;generalize av:a.eval x=dX at aF;cases aF;obtain ⟨vs,U,ae,an⟩:=aI.wf.obj _ _ au;obtain ⟨val,cN,eR⟩:=zs aP aN (b:=b) (base:=0) (vs:=vs.toList) (fun j u hu=>by rw [ae4,jJ U];simpa using hu) ae h;refine ⟨val,w,s,p,v,?_,.refl w p,.refl s w p,aI.wf,⟨rfl,rfl⟩,eR⟩;unfold execOp;rw [ah];simp only [av];refine gV ?_;rw [ae4] at cN;simp only [Instr.loadAt,Instr.sureAddr,aa',ac5,g9,cN]
theorem vM {w:World} {p:bT} (cd:dq w p s) {b:Nat} {T:TypeId} {cs:List af} (au:s b=some (.box T cs)) {vs':Array Value} {cs':List af}
    (ca:∀ vs,w.heap[b]? = some (.cells vs T (0,0))→vs'.size=vs.size) (aF:bF w p vs'.toList cs') (w':World) (iO:w'=w.setRow b vs') :
    de w p w' p∧Kept s (s.set b (.box T cs')) w p w' p∧dq w' p (s.set b (.box T cs')):=by
  subst iO;obtain ⟨vs,U,ae,an⟩:=cd.obj _ _ au;have ar:b<w.heap.size:=(i9.1 U).1;have dO:=setRow_heap w b vs vs' T (0,0) U;have hZ:∀ k,k≠b→(w.setRow b vs').heap[k]? = w.heap[k]? := fun k aD=>setRow_other w b k vs' aD
  have hle:de w p (w.setRow b vs') p:=by
    refine ⟨rfl,rfl,rfl,by simp,fun _ _ h=>h,fun aX o aE=>xO (hZ aX (fun e=>an o (e ▸ aE))),fun aX x ab=>?_⟩;by_cases e:aX=b
    · subst e
      have QS:=ca vs U;simp only [World.kU,U,dO] at ab ⊢;rw [QS];exact ab
    · rw [xN (hZ aX e)];exact ab
  refine ⟨hle,⟨fun aX aq az=>hZ aX (fun e=>by rw [e,au] at az;simp at az),fun aX aq az=>by
    rw [ao.fA]
    · exact az
    · intro e;rw [e,au] at az;simp at az,fun _ _ _ _ h=>h⟩,?_,fun aX o aE=>by simpa using cd.lt aX o aE⟩
  intro aX o' nW;by_cases e:aX=b
  · subst e
    rw [ao.gu] at nW;cases nW;exact ⟨vs',dO,aF.mono hle,an⟩
  · rw [ao.fA _ _ e] at nW
    have ah:=cd.obj aX o' nW;have cP:=hZ aX e;cases o' with
    | box t c=>obtain ⟨us,g1,g2,g3⟩:=ah;exact ⟨us,cP.trans g1,g2.mono hle,g3⟩
    | row t sz n=>obtain ⟨cur,g1,g2,g3,g4⟩:=ah;exact ⟨cur,cP.trans g1,g2,g3,g4⟩
    | map es=>obtain ⟨cM,c,g1,g2,g3⟩:=ah;exact ⟨cM,c,cP.trans g1,⟨g2.1.mono hle,g2.2.mono hle⟩,g3⟩
    | ll es it l c=>exact ah.qm hle cP (hZ it (ah.zm U ba))
    | tick m=>obtain ⟨di,a2,a3,g1⟩:=ah;exact ⟨di,a2,a3,cP.trans g1⟩
    | loop r env=>exact ⟨cP.trans ah.1,fun t v h=>(ah.2 t v h).mono hle⟩
def fa:af→Bool
 | .hB (.func _ _ _)=>true
 | .hB (.slice _ _ _)=>true
 | .any | .hB _ | .agg _ | .cu _=>false
 | _=>true
theorem E2 {w:World} {p:bT} {v:Value} {x:af} (aF:Rel w p v x) (h:fa x=true):v.oneCell'=true:=by
 cases aF with
 | hB v=>cases v<;>first|rfl|(simp [fa] at h;done)
 | _=>first|rfl|(simp [fa] at h;done)
theorem qs {w:World} {p:bT}:∀ {vs:List Value} {xs:List af},bF w p vs xs→xs.all fa=true→∀ v∈vs,v.oneCell'=true:=by
 intro vs
 induction vs with
 | nil=>intro xs _ _ v av;cases av
 | cons u vs a6=>
  intro xs h a8 v av;cases h with
  | cons _ x _ xs ab aN=>
  simp only [List.all_cons,f7] at a8;rcases ad1.1 av with rfl|av
  ·exact E2 ab a8.1
  ·exact a6 aN a8.2 v av
theorem Jw (off:Nat):∀ (cs xs:List af),off+cs.length≤xs.length→eU off cs xs=xs.take off++cs++xs.drop (off+cs.length):=by
 intro cs
 induction cs generalizing off with
 | nil=>intro xs h;simp [eU]
 | cons c cs a6=>
  intro xs h;simp only [eU,i8] at h ⊢;rw [a6 (off+1) _ cE];have U:(xs.set off c).take (off+1)=xs.take off++[c]:=by
   rw [List.take_succ_eq_append_getElem cE];simp [List.take_set_of_le]
  have ae:(xs.set off c).drop (off+1+cs.length)=xs.drop (off+1+cs.length):=by
   rw [List.drop_set_of_lt ag]
  rw [U,ae];simp [al3,an1 1]
theorem a7.Ci (aP:bQ P Γ) {o:Oper} {t T:TypeId} {x y:Operand} {i:bN} {b off:Nat} {cs us:List af} {v:af} (ah:o.op = .store t x y) (aN:Γ.get? t=some i) (ab:aL env x=some (.ptr b off))
  (ay:aL env y=some v) (av:cellsOf v=some us) (hu:ac' us.length i.size=true) (QT:us.all fa=true) (au:s b=some (.box T cs)) (fB:al5 (off+us.length) cs.length=true) {X:af→ao→Prop} :
  a7 P N o env s (fun _ al=>al=s.set b (.box T (eU off us cs))) X:=by
 refine a7.E1 (by simp [gJ,ah]) fun ro B a w p aI=>?_
 have aF:=aI.aL ab;generalize eA:a.eval x=dX at aF;cases aF;have fl:=aI.aL ay;have nq:=qn fl av;obtain ⟨info,d,g1,g2,g3,g4,-⟩:=aP.parts aN;obtain ⟨vs,U,ae,an⟩:=aI.wf.obj _ _ au;have ca:(a.eval y).cells.size=info.size:=by rw [g4,← ac1 hu,← nq.length,ac7]
 have QU:=al4 fB;have lN:vs.size=cs.length:=by rw [← ae.length,ac7]
 have eW:(a.eval y).cells.toList.length=us.length:=nq.length;have hR:=run_storeCells_at P b off T (a.eval y).cells.toList 0 vs w U (by rw [eW];omega) (qs nq QT);simp only [ap6] at hR;have eR:bF w p (vs.toList.take off++(a.eval y).cells.toList++vs.toList.drop (off+(a.eval y).cells.toList.length)) (eU off us cs):=by
  rw [Jw _ _ _ QU,eW];exact ((ae.take off).append nq).append (ae.drop _)
 obtain ⟨cA,db,fe⟩:=vM aI.wf au (vs':=(vs.toList.take off++(a.eval y).cells.toList++vs.toList.drop (off+(a.eval y).cells.toList.length)).toArray) (fun vN Cj=>by
  rw [U] at Cj;cases Cj
  simp only [ak7,f8,ac8,ag2,eW,ac7];omega) (by simpa using eR) _ C
 refine ⟨_,_,p,?_,cA,db,fe,rfl⟩;unfold execOp;rw [ah];simp only [eA];simp only [Instr.storeAt,Instr.sureAddr,storeVar,sizeOf,typeInfo,aa',ac5,g9,run_program,g1,ca,ne_eq,not_true_eq_false,if_false];rw [hR];rfl
theorem dz.freeze {B:fP} {ro:Option Nat} {a:Act} {w:World} {p:bT} (h:dz N B ro env s a w p) {t b:Nat} {T:TypeId} {cs:List af} (aN:env.get? t=some (.ptr b 0)) (au:s b=some (.box T cs)) :
  ∃ bk,dz N B ro ((t,.bA cs 0)::env) (s.del b) a w bk∧de w p w bk∧Kept s (s.del b) w p w bk:=by
 obtain ⟨vs,U,ae,an⟩:=h.wf.obj _ _ au;have ar:b<w.heap.size:=(i9.1 U).1;have hle:de w p w (p.ej b True):=⟨rfl,rfl,rfl,i0 _,fun _ _ h => .inl h,fun _ _ _=>rfl,fun _ _ h=>h⟩
 have aD:Kept s (s.del b) w p w (p.ej b True):=⟨fun _ _ _=>rfl,fun aX aq az=>by
  by_cases e:aX=b
  ·subst e;exact ao.nr _ _
  ·rw [ao.mN _ e];exact az,fun aX o aq az aE=>by
   rcases aE with aE|⟨rfl,_⟩
   ·exact aE
   ·rw [au] at az;cases az⟩
 have cd:dq w (p.ej b True) (s.del b):=by
  refine ⟨fun aX o aq=>?_,fun aX o aE=>by rcases aE with aE|⟨rfl,_⟩;exact h.wf.lt _ _ aE;exact ar⟩;by_cases e:aX=b
  ·subst e;rw [ao.nr] at aq;cases aq
  ·rw [ao.mN _ e] at aq
   have ah:=h.wf.obj aX o aq;have e9:∀ o,p.ej b True aX o↔p aX o:=fun o=>⟨fun aE=>by rcases aE with aE|⟨e',_⟩;exact aE;exact absurd e' e,.inl⟩
   cases o with
   | box t c=>obtain ⟨us,g1,g2,g3⟩:=ah;exact ⟨us,g1,g2.mono hle,fun o aE=>g3 o ((e9 o).1 aE)⟩
   | row t sz n=>obtain ⟨cur,g1,g2,g3,g4⟩:=ah;exact ⟨cur,g1,g2,g3,fun o=>(e9 o).trans (g4 o)⟩
   | map es=>obtain ⟨cM,c,g1,g2,g3⟩:=ah;exact ⟨cM,c,g1,⟨g2.1.mono hle,g2.2.mono hle⟩,g3⟩
   | ll es it l c=>exact ah.qm hle C C
   | tick m=>exact ah
   | loop r env=>exact ⟨ah.1,fun t v h=>(ah.2 t v h).mono hle⟩
 have aI:=h.step hle aD cd;refine ⟨_,⟨aI.size,fun bH v av=>?_,aI.wf,aI.defs,aI.round,aI.base⟩,hle,aD⟩;simp only [Env.get?] at av;split at av
 ·rename_i he
  have:=ac1 he;subst this;cases av;have aF:=h.env t _ aN;generalize a.tmps.getD t undef=dX at aF;cases aF;refine .bA b 0 0 0 vs.toList cs C ?_ (ae.mono hle);intro i v aQ;refine ⟨.inr ⟨rfl,trivial⟩,?_⟩;rw [ae4,jJ U];simpa using aQ
 ·exact aI.env bH v av
theorem fH.freeze {ops:Array Oper} {Q:b8→Env→ao→Prop} {l:List Nat} (t b:Nat) {T:TypeId} {cs:List af} (aN:env.get? t=some (.ptr b 0)) (au:s b=some (.box T cs))
  (h:fH P N ops l Q ((t,.bA cs 0)::env) (s.del b)):fH P N ops l Q env s:=by
 intro ro B a w p aI;obtain ⟨bk,hR,hle,aD⟩:=aI.freeze aN au;exact fH.after hle aD h hR
theorem ad.freeze {Q:b8→Env→ao→Prop} {c:Code} (t b:Nat) {T:TypeId} {cs:List af} (aN:env.get? t=some (.ptr b 0)) (au:s b=some (.box T cs))
  (h:ad P N c Q ((t,.bA cs 0)::env) (s.del b)):ad P N c Q env s:=by
 intro hg B a w p eZ aI;obtain ⟨bk,hR,hle,aD⟩:=aI.freeze aN au;exact mc (h hg B a w bk eZ hR) fun _ _ _ q=>q.after hle aD
end
def ke:af→af→Option Bool
 | .str a,.str b=>some (a==b)
 | .int k a,.int k' b=>if k=k' then some (a==b) else none
 | .bool a,.bool b=>some (a==b)
 | _,_=>none
def kf:sP→af→Bool
 | .str,.str _=>true
 | .int _,.int _ _=>true
 | .bool,.bool _=>true
 | _,_=>false
def jb:List (af×af)→af→Option (Option af)
  | [],_=>some none
  | (k',v)::r,k=>match ke k k' with
    | some true=>some (some v)
    | some false=>jb r k
    | none=>none
def lO:List (af×af)→af→af→Option (List (af×af))
  | [],k,v=>some [(k,v)]
  | (k',fz)::r,k,v=>match ke k k' with
    | some true=>some ((k,v)::r)
    | some false=>match lO r k v with
      | some r'=>some ((k',fz)::r')
      | none=>none
    | none=>none
theorem Jx (a b:ByteArray):(a==b)=(a.data.toList==b.data.toList):=by
 cases a with|mk x=>cases b with|mk y=>
 show (ByteArray.beq ⟨x⟩ ⟨y⟩)=_;unfold ByteArray.beq;simp
theorem Ck {w:World} {p:bT} {d:TypeDesc} {hS zz:Value} {k k':af} {b:Bool} (U:Rel w p hS k) (ae:Rel w p zz k') (aZ:kf (ez d) k=true) (h:ke k k'=some b) :
  Instr.sameNow d hS zz=some b:=by
 unfold ke at h;split at h
 ·cases U with|str a _ e=>cases ae with|str da _ e'=>
  cases d<;>simp [ez,kf] at aZ
  cases h;simp [Instr.sameNow,Jx,e,e']
 ·cases U;cases ae
  cases d<;>simp [ez,kf] at aZ
  split at h
  ·cases h;rename_i aD;subst aD;simp [Instr.sameNow]
  ·cases h
 ·cases U;cases ae
  cases d<;>simp [ez,kf] at aZ
  cases h;simp [Instr.sameNow]
 ·cases h
theorem QV {w:World} {p:bT} {hS zz:Value} {k k':af} (U:Rel w p hS k) (ae:Rel w p zz k') (h:ke k k'=some true):Instr.sameBits 10000 zz hS=true:=by
 unfold ke at h;split at h
 ·cases U with|str a _ e=>cases ae with|str da _ e'=>
  have h:=beq_iff_eq.1 (al8.inj h);show (da==a)=true;rw [Jx,e,e',h];simp
 ·rename_i k a k' b
  cases U;cases ae;split at h
  ·rename_i aD
   subst aD;have h:=beq_iff_eq.1 (al8.inj h);show (k==k&&b==a)=true;rw [h];simp
  ·cases h
 ·rename_i a b
  cases U;cases ae;have h:=beq_iff_eq.1 (al8.inj h);show (b==a)=true;rw [h];simp
 ·cases h
theorem QW {w:World} {p:bT} {d:TypeDesc} {hS:Value} {k:af} (aD:Rel w p hS k) (aZ:kf (ez d) k=true):∀ (cM:List MapEntry) (es:List (af×af)) (i:Nat) (r:Option af),
  lL w p cM es→jb es k=some r →
  match r with
  | none=>Instr.findNow d hS cM i=some none
  | some v=>∃ j val,Instr.findNow d hS cM i=some (some (j,val))∧Rel w p val v:=by
 intro cM
 induction cM with
 | nil=>
  intro es i r aF h;cases es with
  | nil=>cases h;rfl
  | cons e es=>exact absurd aF.1.length ba
 | cons m cM a6=>
  intro es i r aF h;cases es with
  | nil=>exact absurd aF.1.length ba
  | cons e es=>
   obtain ⟨k',fz⟩:=e;obtain ⟨xS,sU⟩:=aF;cases xS with|cons _ _ _ _ eG sV=>cases sU with|cons _ _ _ _ kz qt=>
   simp only [jb] at h;split at h
   ·rename_i he
    cases h;exact ⟨i,m.val,by simp only [Instr.findNow,Ck aD eG aZ he],kz⟩
   ·rename_i he
    have:=a6 es (i+1) r ⟨sV,qt⟩ h;have au:=Ck aD eG aZ he;cases r with
    | none=>simp only [Instr.findNow,au];exact this
    | some v=>obtain ⟨j,val,U,ae⟩:=this;exact ⟨j,val,by simp only [Instr.findNow,au];exact U,ae⟩
   ·cases h
theorem QX {w:World} {p:bT} {d:TypeDesc} {hS vv:Value} {k v:af} (aD:Rel w p hS k) (av:Rel w p vv v) (aZ:kf (ez d) k=true):∀ (cM:List MapEntry) (es dy:List (af×af)) (i:Nat),
  lL w p cM es→lO es k v=some dy →
  (Instr.findNow d hS cM i=some none∧∀ n,lL w p (cM++[{ key:=hS,val:=vv,born:=n }]) dy) ∨
  (∃ j val e,Instr.findNow d hS cM i=some (some (i+j,val))∧cM[j]? = some e∧Instr.sameBits 10000 e.key hS=true∧lL w p (cM.modify j fun e=>{ e with key:=hS,val:=vv }) dy):=by
 intro cM
 induction cM with
 | nil=>
  intro es dy i aF h;cases es with
  | nil=>cases h;exact .inl ⟨rfl,fun n=>⟨.cons _ _ _ _ aD .nil,.cons _ _ _ _ av .nil⟩⟩
  | cons e es=>exact absurd aF.1.length ba
 | cons m cM a6=>
  intro es dy i aF h;cases es with
  | nil=>exact absurd aF.1.length ba
  | cons e es=>
   obtain ⟨k',fz⟩:=e;obtain ⟨xS,sU⟩:=aF;cases xS with|cons _ _ _ _ eG sV=>cases sU with|cons _ _ _ _ kz qt=>
   simp only [lO] at h;split at h
   ·rename_i he
    cases h;refine .inr ⟨0,m.val,m,by simp only [Instr.findNow,Ck aD eG aZ he,ap6],rfl,QV aD eG he,?_⟩;exact ⟨.cons _ _ _ _ aD sV,.cons _ _ _ _ av qt⟩
   ·rename_i he
    split at h
    ·rename_i r' jr
     cases h;have au:=Ck aD eG aZ he;rcases a6 es r' (i+1) ⟨sV,qt⟩ jr with ⟨U,ae⟩|⟨j,val,e',U,ae,an,bd⟩
     ·exact .inl ⟨by simp only [Instr.findNow,au];exact U,fun n=>⟨.cons _ _ _ _ eG (ae n).1,.cons _ _ _ _ kz (ae n).2⟩⟩
     ·refine .inr ⟨j+1,val,e',by simp only [Instr.findNow,au];rw [U];congr 3;omega,by simpa using ae,an,?_⟩
      simp only [List.modify_succ_cons];exact ⟨.cons _ _ _ _ eG bd.1,.cons _ _ _ _ kz bd.2⟩
    ·cases h
   ·cases h
section
variable {P:Program} {Γ:cz} {N:Nat} {env:Env} {s:ao}
theorem run_checkKey {d:TypeDesc} {t:TypeId} {hS:Value} {k:af} {w:World} {p:bT} (hu:P.underlying t=some d) (aD:Rel w p hS k) (aZ:kf (ez d) k=true) (e:Bool) :
  (Instr.checkKey e 10000 t hS).run P w = .ok () w:=by
 have:∀ n,(Instr.checkKey e (n+1) t hS).run P w = .ok () w:=by
  intro n;unfold Instr.checkKey;simp only [aa',run_underlying hu,g9];cases aD<;>simp [kf] at aZ<;>cases d<;>simp [ez] at aZ<;>rfl
 exact this 9999
theorem run_findKey {d:TypeDesc} {t:TypeId} {hS:Value} {es:List MapEntry} {r:Option (Nat×Value)} {w:World} (hu:P.underlying t=some d) (h:Instr.findNow d hS es 0=some r) :
  (Instr.findKey t hS es).run P w = .ok r w:=by
 unfold Instr.findKey;simp only [aa',run_underlying hu,g9,h,ac5]
def Cl:Obj→Bool
 | .cells .. => false
 | _=>true
theorem xT {w:World} {r:Nat} {o:Obj} (h:w.heap[r]? = some o) (aA:Cl o=true):(getObj r).run P w = .ok o w:=by
 cases o<;>first|(simp [Cl] at aA;done)|simp [getObj,at6,h]
def lP (ok:Bool) (zero:af):Option af→af
 | some v=>if ok then .cu [v,.bool true] else v
 | none=>if ok then .cu [zero,.bool false] else zero
theorem a7.lookup (aP:bQ P Γ) {o:Oper} {t dY e0:TypeId} {x y:Operand} {ok:Bool} {it gL aG:bN} {m:af} {es:List (af×af)} {k z:af} {r:Option af} (ah:o.op = .lookup t x y ok)
  (aN:Γ.get? t=some it) (bs:it.bG = .map dY e0) (h0:Γ.get? dY=some gL) (bI:Γ.get? e0=some aG) (ab:aL env x=some m) (ay:aL env y=some k)
  (hm:(∃ b,m = .map b∧s b=some (.map es))∨(m = .sN∧es=[])) (aZ:kf gL.bG k=true) (aw:jb es k=some r) (bO:hC aG.zero=some z) {X:af→ao→Prop} :
  a7 P N o env s (fun x al=>x=lP ok z r∧al=s) X:=by
 refine a7.ky (by simp [gJ,ah]) fun ro B a w p aI=>?_
 obtain ⟨info,d,U,ae,an,-⟩:=aP.parts aN;obtain ⟨QY,xU,kv,ik,sW,-⟩:=aP.parts h0;obtain ⟨jU,kA,E3,zA,QZ,-,-,E4⟩:=aP.parts bI;have ax:d = .map dY e0:=by rw [bs] at an;cases d<;>simp [ez] at an;rw [an.1,an.2]
 subst ax;have aF:=aI.aL ab;have kB:=aI.aL ay;generalize eA:a.eval x=dX at aF;generalize ff:a.eval y=ga at kB;rw [← sW] at aZ;have E5:(zeroValue e0).run P w = .ok aG.zero w:=by simp [zeroValue,typeInfo,E3,E4]
 have tail:∀ cM:Array MapEntry,lL w p cM.toList es→∃ val,(do
   Instr.checkKey cM.isEmpty 10000 dY ga
   let (v,Q0) ← match ← Instr.findKey dY ga cM.toList with
    | some (_,v)=>pure (v,true)
    | none=>do pure (← zeroValue e0,false)
   pure (if ok then .tuple #[v,.bool Q0] else v):Sem Value).run P w = .ok val w∧Rel w p val (lP ok z r):=by
  intro cM E6;have kg:=QW kB aZ cM.toList es 0 r E6 aw;simp only [aa',run_checkKey ik kB aZ,g9];cases r with
  | none=>
   simp only at kg;simp only [run_findKey ik kg,g9,aa',E5,ac5,lP];cases ok
   ·exact ⟨_,rfl,qp bO⟩
   ·exact ⟨_,rfl,.cu _ _ (.cons _ _ _ _ (qp bO) (.cons _ _ _ _ (.bool _) .nil))⟩
  | some v=>
   obtain ⟨j,val,g1,g2⟩:=kg;simp only [run_findKey ik g1,g9,ac5,lP];cases ok
   ·exact ⟨_,rfl,g2⟩
   ·exact ⟨_,rfl,.cu _ _ (.cons _ _ _ _ g2 (.cons _ _ _ _ (.bool _) .nil))⟩
 have E7:∃ val,(Instr.lookup t dX ga ok).run P w = .ok val w∧Rel w p val (lP ok z r):=by
  unfold Instr.lookup;rcases hm with ⟨b,rfl,au⟩|⟨rfl,rfl⟩
  ·cases aF
   obtain ⟨cM,clock,g1,g2,-⟩:=aI.wf.obj _ _ au;obtain ⟨val,cN,eR⟩:=tail cM g2;refine ⟨val,?_,eR⟩;simp only [aa',run_underlying ae,g9,xT g1 C,ac5] at cN ⊢;exact cN
  ·cases aF
   obtain ⟨val,cN,eR⟩:=tail #[] ⟨.nil,.nil⟩;refine ⟨val,?_,eR⟩;simp only [aa',run_underlying ae,g9,ac5] at cN ⊢;exact cN
 obtain ⟨val,cN,eR⟩:=E7;refine ⟨val,w,s,p,_,?_,.refl w p,.refl s w p,aI.wf,⟨rfl,rfl⟩,eR⟩;unfold execOp;rw [ah];simp only [eA,ff];exact gV cN
theorem E8 {w:World} {p:bT} (cd:dq w p s) {b:Nat} {es:List (af×af)} (au:s b=some (.map es)) {mes':Array MapEntry} {clock':Nat} {dy:List (af×af)}
    (aF:lL w p mes'.toList dy) (aq:∀ e∈mes'.toList,e.born<clock') (eY:(mes'.toList.map (·.born)).Nodup)
    (w':World) (iO:w'={ w with heap:=w.heap.setIfInBounds b (.map mes' clock') }) :
    de w p w' p∧Kept s (s.set b (.map dy)) w p w' p∧dq w' p (s.set b (.map dy)):=by
  subst iO;obtain ⟨cM,clock,U,ae,an,bd⟩:=cd.obj _ _ au;have ar:b<w.heap.size:=(i9.1 U).1;have dO:(w.heap.setIfInBounds b (.map mes' clock'))[b]? = some (.map mes' clock'):=by simp [ae3,ar]
  have hZ:∀ k,k≠b→(w.heap.setIfInBounds b (.map mes' clock'))[k]? = w.heap[k]? := fun k aD=>by
    rw [ae3,d9 (fun e=>aD e.symm)]
  have hle:de w p { w with heap:=w.heap.setIfInBounds b (.map mes' clock') } p:=by
    refine ⟨rfl,rfl,rfl,by simp,fun _ _ h=>h,fun aX o aE=>?_,fun aX x ab=>?_⟩
    · by_cases e:aX=b
      · subst e;simp only [World.cell?,U,dO]
      · exact xO (hZ aX e)
    · by_cases e:aX=b
      · subst e;simp [World.kU,U] at ab
      · rw [xN (hZ aX e)];exact ab
  refine ⟨hle,⟨fun aX aq az=>hZ aX (fun e=>by rw [e,au] at az;simp at az),fun aX aq az=>by
    rw [ao.fA]
    · exact az
    · intro e;rw [e,au] at az;simp at az,fun _ _ _ _ h=>h⟩,?_,fun aX o aE=>by simpa using cd.lt aX o aE⟩
  intro aX o' nW;by_cases e:aX=b
  · subst e
    rw [ao.gu] at nW;cases nW;exact ⟨mes',clock',dO,⟨aF.1.mono hle,aF.2.mono hle⟩,aq,eY⟩
  · rw [ao.fA _ _ e] at nW
    have ah:=cd.obj aX o' nW;have cP:=hZ aX e;cases o' with
    | box t c=>obtain ⟨us,g1,g2,g3⟩:=ah;exact ⟨us,cP.trans g1,g2.mono hle,g3⟩
    | row t sz n=>obtain ⟨cur,g1,g2,g3,g4⟩:=ah;exact ⟨cur,cP.trans g1,g2,g3,g4⟩
    | map es=>obtain ⟨cM,c,g1,g2,g3⟩:=ah;exact ⟨cM,c,cP.trans g1,⟨g2.1.mono hle,g2.2.mono hle⟩,g3⟩
    | ll es it l c=>exact ah.qm hle cP (hZ it (ah.zm U ba))
    | tick m=>obtain ⟨di,a2,a3,g1⟩:=ah;exact ⟨di,a2,a3,cP.trans g1⟩
    | loop r env=>exact ⟨cP.trans ah.1,fun t v h=>(ah.2 t v h).mono hle⟩
theorem Q1 {t dY e0:TypeId} {xU:TypeDesc} {b:Nat} {cM:Array MapEntry} {clock:Nat} {hS vv:Value} {k:af} {w:World} {p:bT}
  (ae:P.underlying t=some (.map dY e0)) (ik:P.underlying dY=some xU) (kB:Rel w p hS k) (aZ:kf (ez xU) k=true) (g1:w.heap[b]? = some (.map cM clock)) :
  (∀ (h:Instr.findNow xU hS cM.toList 0=some none),(Instr.mapUpdate t (.map (some b)) hS vv).run P w = .ok () { w with heap:=w.heap.setIfInBounds b (.map (cM.push { key:=hS,val:=vv,born:=clock }) (clock+1)) }) ∧
  (∀ j val e,Instr.findNow xU hS cM.toList 0=some (some (j,val))→cM[j]? = some e→Instr.sameBits 10000 e.key hS=true →
   (Instr.mapUpdate t (.map (some b)) hS vv).run P w = .ok () { w with heap:=w.heap.setIfInBounds b (.map (cM.modify j fun e=>{ e with key:=hS,val:=vv }) clock) }):=by
 constructor
 ·intro h
  unfold Instr.mapUpdate;simp only [aa',run_underlying ae,g9,xT g1 C,run_checkKey ik kB aZ,run_findKey ik h];simp [setObj,at6,g1]
 ·intro j val e h he aq
  unfold Instr.mapUpdate;simp only [aa',run_underlying ae,g9,xT g1 C,run_checkKey ik kB aZ,run_findKey ik h];simp [Instr.keyThatStays,he,aq,setObj,at6,g1]
theorem a7.mapUpdate (aP:bQ P Γ) {o:Oper} {t dY e0:TypeId} {x y z:Operand} {it gL:bN} {b:Nat} {es dy:List (af×af)} {k v:af} (ah:o.op = .mapUpdate t x y z∨o.op = .insert t x y z)
    (aN:Γ.get? t=some it) (bs:it.bG = .map dY e0) (h0:Γ.get? dY=some gL) (ab:aL env x=some (.map b)) (ay:aL env y=some k) (bO:aL env z=some v)
    (au:s b=some (.map es)) (aZ:kf gL.bG k=true) (aE:lO es k v=some dy) {X:af→ao→Prop} :
    a7 P N o env s (fun _ al=>al=s.set b (.map dy)) X:=by
  refine a7.E1 (by rcases ah with ah|ah<;>simp [gJ,ah]) fun ro B a w p aI=>?_
  obtain ⟨info,d,U,ae,an,-⟩:=aP.parts aN;obtain ⟨QY,xU,kv,ik,sW,-⟩:=aP.parts h0;have ax:d = .map dY e0:=by rw [bs] at an;cases d<;>simp [ez] at an;rw [an.1,an.2]
  subst ax;rw [← sW] at aZ;have aF:=aI.aL ab;have kB:=aI.aL ay;have E9:=aI.aL bO;obtain ⟨cM,clock,g1,g2,g3,g4⟩:=aI.wf.obj _ _ au;generalize eA:a.eval x=dX at aF;cases aF;obtain ⟨fs,gD⟩:=Q1 (vv:=a.eval z) ae ik kB aZ g1;have cN:∀ w',(Instr.mapUpdate t (.map (some b)) (a.eval y) (a.eval z)).run P w = .ok () w'→(execOp a.eval o).run P w = .ok .skip w':=by
    intro w' hw;unfold execOp;rcases ah with ah|ah<;>rw [ah]<;>simp only [eA]<;>simp only [aa',hw,g9,ac5]
  rcases QX kB E9 aZ cM.toList es dy 0 g2 aE with ⟨ek,dj⟩|⟨j,val,e,ek,dj,dT,mO⟩
  · obtain ⟨cA,db,fe⟩:=E8 aI.wf au (mes':=cM.push { key:=a.eval y,val:=a.eval z,born:=clock }) (clock':=clock+1) (by simpa using dj clock)
      (by intro e he;simp only [ap4,ac9,z2] at he;rcases he with he|rfl;have:=g3 e he;omega;simp)
      (by
        simp only [ap4,List.map_append,ac4,ae5]
        rw [List.nodup_append]
        refine ⟨g4,by simp,?_⟩
        intro x ab y ay e
        simp only [z2] at ay
        obtain ⟨m,hm,rfl⟩:=ad7.1 ab
        have:=g3 m hm
        omega) _ C
    exact ⟨_,_,p,cN _ (fs ek),cA,db,fe,rfl⟩
  · rw [ae4] at ek
    have vO:((cM.modify j fun e=>{ e with key:=a.eval y,val:=a.eval z }).toList.map (·.born))=cM.toList.map (·.born):=by
      rw [Array.toList_modify];apply List.ext_getElem?;intro n;simp only [ad2,List.getElem?_modify];split
      · cases cM.toList[n]? <;> rfl
      · cases cM.toList[n]? <;> rfl
    obtain ⟨cA,db,fe⟩:=E8 aI.wf au (mes':=cM.modify j fun e=>{ e with key:=a.eval y,val:=a.eval z }) (clock':=clock) (by simpa using mO)
      (by
        intro e he
        have:e.born∈((cM.modify j fun e=>{ e with key:=a.eval y,val:=a.eval z }).toList.map (·.born)):=ad7.2 ⟨e,he,rfl⟩
        rw [vO] at this
        obtain ⟨e',vz,aq⟩:=ad7.1 this
        rw [← aq];exact g3 e' vz)
      (by rw [vO];exact g4) _ C
    exact ⟨_,_,p,cN _ (gD j val e ek (by simpa using dj) dT),cA,db,fe,rfl⟩
theorem a7.makeMap {o:Oper} {t:TypeId} (ah:o.op = .makeMap t none) {X:af→ao→Prop}:a7 P N o env s (fun x al=>∃ b,s b=none∧x = .map b∧al=s.set b (.map [])) X:=by
 refine a7.ky (by simp [gJ,ah]) fun ro B a w p aI=>?_
 obtain ⟨az,hle,aD,cd⟩:=rD aI.wf (.map #[] 0) (.map []) (fun w' iO aF hh=>⟨#[],0,iO,⟨.nil,.nil⟩,by simp,by simp⟩);refine ⟨.map (some w.heap.size),_,_,p,_,?_,hle,aD,cd,⟨w.heap.size,az,rfl,rfl⟩,.map _⟩;unfold execOp;rw [ah];exact gV C
end
theorem vP {vs:List Value} {sz:Nat} (h:∀ v∈vs,v.cells.size=sz):(flat vs).length=vs.length*sz:=by
 induction vs with
 | nil=>simp [flat]
 | cons v vs a6=>
  have eX:=a6 (fun u hu=>h u (i5 _ hu));simp only [flat,ah4,f8,ac7,i8] at eX ⊢;rw [h v (i7 ..)];have Q2:(aA2 (fun v=>v.cells.toList) vs).length=vs.length*sz:=eX;rw [Q2,ah'];omega
theorem E' (vs us:List Value):flat (vs++us)=flat vs++flat us:=by simp [flat,List.flatMap_append]
theorem Q3 {w:World} {p:bT} {s:ao} (cd:dq w p s) {vs:List Value} {xs:List af} {sz cap:Nat} {e:TypeId} {cur:Array Value} (aF:bF w p vs xs)
    (au:∀ v∈vs,v.cells.size=sz) (oO:cur.size=cap*sz) (vQ:cur.toList.take (xs.length*sz)=flat vs) (kC:xs.length≤cap) (hm:xs.length≤9223372036854775807) :
    ∃ bk,s w.heap.size=none∧de w p (w.drew.alloc (.cells cur e)) bk∧Kept s (s.set w.heap.size (.row e sz xs.length)) w p (w.drew.alloc (.cells cur e)) bk ∧
      dq (w.drew.alloc (.cells cur e)) bk (s.set w.heap.size (.row e sz xs.length))∧Rel (w.drew.alloc (.cells cur e)) bk (.slice (some ⟨w.heap.size,0,none⟩) xs.length cap) (.aC sz xs (.own w.heap.size)):=by
  have az:s w.heap.size=none:=by
    cases h:s w.heap.size with
    | none=>rfl
    | some o'=>exact absurd (cd.obj _ _ h).lt ag
  let bk:bT:=fun b o=>p b o∨(b=w.heap.size∧o<xs.length*sz)
  have oP:(w.drew.alloc (.cells cur e)).heap[w.heap.size]? = some (.cells cur e):=ue w.drew _;have hold:∀ b,b<w.heap.size→(w.drew.alloc (.cells cur e)).heap[b]? = w.heap[b]? := fun b aq=>mg w.drew _ b aq
  have hle:de w p (w.drew.alloc (.cells cur e)) bk:=de.of_heap C C C ba (fun _ _ h => .inl h) cd.lt hold;have hlen:=vP au;have hmul:xs.length*sz≤cap*sz:=ak3 _ kC;refine ⟨bk,az,hle,⟨fun b aq _=>hold b aq,fun b aq au=>by rw [ao.fA _ _ ag];exact au,fun b o aq _ aE=>by rcases aE with aE|⟨rfl,_⟩;exact aE;omega⟩,?_,?_⟩
  · have aw:dq (w.drew.alloc (.cells cur e)) bk s:=cd.grow hle hold (fun b o aq aE=>by rcases aE with aE|⟨rfl,_⟩;exact aE;omega) (fun b o aE=>by
      rcases aE with aE|⟨rfl,_⟩
      · have:=cd.lt b o aE;simp;omega
      · simp)
    refine ⟨fun b o aq=>?_,aw.lt⟩;by_cases e':b=w.heap.size
    · subst e'
      rw [ao.gu] at aq;cases aq;refine ⟨cur,oP,by omega,⟨cap,oO⟩,fun o=>⟨fun aE=>?_,fun ah => .inr ⟨rfl,ah⟩⟩⟩;rcases aE with aE|⟨_,ah⟩
      · exact absurd (cd.lt _ _ aE) ag
      · exact ah
    · rw [ao.fA _ _ e'] at aq;exact aw.obj b o aq
  · refine .aC _ 0 _ _ _ vs _ _ ba rfl ?_ (aF.mono hle) au hm kC (fun h=>by cases h) (fun b aq=>?_)
    · intro i v av
      have aQ:i<xs.length*sz:=by
        have:=(ac3.1 av).1;rw [hlen,aF.length] at this;exact this
      refine ⟨.inr ⟨rfl,by omega⟩,?_⟩;rw [ae4,jJ oP];rw [← vQ,af',f9 aQ] at av;simpa using av
    · cases aq
      exact ⟨rfl,rfl,e,by simp only [World.kU,oP,oO]⟩
theorem Q4 {w:World} {p:bT} {s:ao} (cd:dq w p s) {b:Nat} {e:TypeId} {sz n cap:Nat} (vR:s b=some (.row e sz n)) {cur:Array Value} (jH:w.heap[b]? = some (.cells cur e (0,0)))
  (oO:cur.size=cap*sz) {vs us:List Value} {xs ys:List af} (az:n=xs.length) (aF:bF w p vs xs) (hu:bF w p us ys) (au:∀ v∈vs,v.cells.size=sz) (kY:∀ v∈us,v.cells.size=sz)
  (vQ:cur.toList.take (n*sz)=flat vs) (kC:n+us.length≤cap) (hm:n+us.length≤9223372036854775807) :
  ∃ bk,de w p (w.setRow b (cur.toList.take (n*sz)++flat us++cur.toList.drop (n*sz+(flat us).length)).toArray) bk ∧
   Kept s ((s.del b).set b (.row e sz (n+us.length))) w p (w.setRow b (cur.toList.take (n*sz)++flat us++cur.toList.drop (n*sz+(flat us).length)).toArray) bk ∧
   dq (w.setRow b (cur.toList.take (n*sz)++flat us++cur.toList.drop (n*sz+(flat us).length)).toArray) bk ((s.del b).set b (.row e sz (n+us.length))) ∧
   Rel (w.setRow b (cur.toList.take (n*sz)++flat us++cur.toList.drop (n*sz+(flat us).length)).toArray) bk (.slice (some ⟨b,0,none⟩) (n+us.length) cap) (.aC sz (xs++ys) (.own b)):=by
 obtain ⟨abw,U,ae,an,bd⟩:=cd.obj _ _ vR;rw [jH] at U;cases U;have kD:=vP kY;have ft:=vP au;have hmul:n*sz+us.length*sz≤cap*sz:=by rw [← ah'];exact ak3 _ kC
 generalize zB:(cur.toList.take (n*sz)++flat us++cur.toList.drop (n*sz+(flat us).length)).toArray=new;have nX:new.toList=cur.toList.take (n*sz)++flat us++cur.toList.drop (n*sz+(flat us).length):=by rw [← zB]
 have ct:cur.toList.length=cap*sz:=by rw [ac7,oO]
 have Cm:new.size=cur.size:=by rw [← ac7,nX];simp only [f8,ac8,ag2,kD,ct,oO];omega
 have ar:b<w.heap.size:=(i9.1 jH).1;have dO:=setRow_heap w b cur new e (0,0) jH;have hZ:∀ k,k≠b→(w.setRow b new).heap[k]? = w.heap[k]? := fun k aD=>setRow_other w b k new aD
 have pz:∀ o,o<n*sz→new[o]? = cur[o]? := fun o ah=>by
  have:new.toList[o]? = cur.toList[o]?:=by
   rw [nX,ae',ad6 xI,af',f9 ah]
  simpa using this
 let bk:bT:=fun aX o=>p aX o∨(aX=b∧o<(n+us.length)*sz)
 have hle:de w p (w.setRow b new) bk:=by
  refine ⟨rfl,rfl,rfl,by simp,fun _ _ h => .inl h,fun aX o aE=>?_,fun aX x ab=>?_⟩
  ·by_cases e':aX=b
   ·subst e'
    rw [jJ dO,jJ jH];exact pz o ((bd o).1 aE)
   ·exact xO (hZ aX e')
  ·by_cases e':aX=b
   ·subst e'
    simp only [World.kU,jH,dO] at ab ⊢;rw [Cm];exact ab
   ·rw [xN (hZ aX e')];exact ab
 refine ⟨bk,hle,⟨fun aX aq az=>hZ aX (fun e'=>by rw [e',vR] at az;simp at az),fun aX aq az=>?_,fun aX o aq az aE=>?_⟩,⟨fun aX o' nW=>?_,fun aX o aE=>?_⟩,?_⟩
 ·have cO:aX≠b:=fun e'=>by rw [e',vR] at az;simp at az
  rw [ao.fA _ _ cO,ao.mN _ cO];exact az
 ·rcases aE with aE|⟨e',_⟩
  ·exact aE
  ·rw [e',vR] at az;simp at az
 ·by_cases e':aX=b
  ·subst e'
   rw [ao.gu] at nW;cases nW;refine ⟨new,dO,by rw [Cm,oO,ah'];omega,⟨cap,by rw [Cm,oO]⟩,fun o=>⟨fun aE=>?_,fun ah => .inr ⟨rfl,ah⟩⟩⟩;rcases aE with aE|⟨_,ah⟩
   ·have:=(bd o).1 aE;rw [ah'];omega
   ·exact ah
  ·rw [ao.fA _ _ e',ao.mN _ e'] at nW
   have ah:=cd.obj aX o' nW;have cP:=hZ aX e';have Jy:∀ o,bk aX o↔p aX o:=fun o=>⟨fun aE=>by rcases aE with aE|⟨Q5,_⟩;exact aE;exact absurd Q5 e',.inl⟩
   cases o' with
   | box t c=>obtain ⟨us,g1,g2,g3⟩:=ah;exact ⟨us,cP.trans g1,g2.mono hle,fun o aE=>g3 o ((Jy o).1 aE)⟩
   | row t sz n=>obtain ⟨cur,g1,g2,g3,g4⟩:=ah;exact ⟨cur,cP.trans g1,g2,g3,fun o=>(Jy o).trans (g4 o)⟩
   | map es=>obtain ⟨cM,c,g1,g2,g3⟩:=ah;exact ⟨cM,c,cP.trans g1,⟨g2.1.mono hle,g2.2.mono hle⟩,g3⟩
   | ll es it l c=>exact ah.qm hle cP (hZ it (ah.zm jH ba))
   | tick m=>obtain ⟨di,a2,a3,g1⟩:=ah;exact ⟨di,a2,a3,cP.trans g1⟩
   | loop r env=>exact ⟨cP.trans ah.1,fun t v h=>(ah.2 t v h).mono hle⟩
 ·rcases aE with aE|⟨rfl,_⟩
  ·simpa using cd.lt aX o aE
  ·simpa using ar
 ·have e7:(xs++ys).length=n+us.length:=by rw [f8,az,hu.length]
  refine .aC _ 0 _ _ _ (vs++us) _ _ ba e7.symm ?_ ((aF.append hu).mono hle) (fun v av=>?_) hm kC (fun h=>by cases h) (fun rE rC=>?_)
  ·intro i v av
   have kx:flat (vs++us)=new.toList.take ((n+us.length)*sz):=by
    rw [E',nX,← vQ,ah',← kD];have:n*sz+(flat us).length=(cur.toList.take (n*sz)++flat us).length:=by rw [f8,ac8,ct];omega
    rw [this,av1]
   have aQ:i<(n+us.length)*sz:=by
    have:=(ac3.1 av).1;rw [kx,ac8] at this;omega
   refine ⟨.inr ⟨rfl,by omega⟩,?_⟩;rw [ae4,jJ dO];rw [kx,af',f9 aQ] at av;simpa using av
  ·rcases ac9.1 av with av|av
   ·exact au v av
   ·exact kY v av
  ·cases rC
   exact ⟨rfl,rfl,e,by simp only [World.kU,dO,Cm,oO]⟩
section
variable {P:Program} {Γ:cz} {N:Nat} {env:Env} {s:ao}
theorem Cn {t bH ty e:TypeId} {c6:TypeDesc} {i:TypeInfo} (w:World) (aN:P.underlying t=some (.slice e)) (cZ:P.underlying bH=some c6) (cm:∀ k,c6 ≠ .int k) (aQ:P.info? e=some i)
  (g sLen sCap:Nat) (cur:Array Value) (aw:w.heap[g]? = some (.cells cur e (0,0))) {xv:Value} {m:Nat} {news:List Value}
  (aB:(Builtin.lenOf xv).run P w = .ok m w) (aZ:(Builtin.firstCells i.size m xv).run P w = .ok news.toArray w) (U:∀ u∈news,u.oneCell'=true)
  (Q6:sLen+m≤sCap) (fB:sLen*i.size+news.length≤cur.size) :
  (Builtin.append_ #[t,bH] ty #[.slice (some ⟨g,0,none⟩) sLen sCap,xv]).run P w =
   .ok (.slice (some ⟨g,0,none⟩) (sLen+m) sCap) (w.setRow g (cur.toList.take (sLen*i.size)++news++cur.toList.drop (sLen*i.size+news.length)).toArray):=by
 have aI:=run_storeCells_at P g (sLen*i.size) e news 0 cur w aw (by simpa using fB) U;simp only [ap6] at aI;have bO:(match c6 with | .int _=>true|_=>false)=false:=by cases c6<;>first|rfl|exact absurd C (cm _)
 simp [Builtin.append_,run_underlying aN,run_underlying cZ,sizeOf,typeInfo,aQ,bO,aB,Q6,aZ,Addr.add_lit,aI]
theorem zC {t bH ty e:TypeId} {c6:TypeDesc} {i:TypeInfo} {z:Value} (w:World) (aN:P.underlying t=some (.slice e)) (cZ:P.underlying bH=some c6) (cm:∀ k,c6 ≠ .int k) (aQ:P.info? e=some i) (bO:i.zero=some z)
  {base:Option Addr} {sLen sCap:Nat} {xv:Value} {m:Nat} {olds news:List Value}
  (aB:(Builtin.lenOf xv).run P w = .ok m w) (pA:(Builtin.firstCells i.size sLen (.slice base sLen sCap)).run P w.drew = .ok olds.toArray w.drew) (aZ:(Builtin.firstCells i.size m xv).run P w.drew = .ok news.toArray w.drew)
  (aw:sCap<sLen+m) (er:((sLen+m:Nat):Int)≤9223372036854775807) (fB:Builtin.nextslicecap (sLen+m) sCap*i.bytes≤281474976710656) :
  (Builtin.append_ #[t,bH] ty #[.slice base sLen sCap,xv]).run P w =
   .ok (.slice (some ⟨w.heap.size,0,none⟩) (sLen+m) (grownCap w (sLen+m) sCap e))
    (w.drew.alloc (.cells (olds++news++(Builtin.zeroCells z.cells (grownCap w (sLen+m) sCap e-(sLen+m))).toList).toArray e)):=by
 have az:¬ (sLen+m≤sCap):=by omega
 have Q7:¬ (9223372036854775807<((sLen:Int)+(m:Int))):=by omega
 have Q8:¬ (281474976710656<Builtin.nextslicecap (sLen+m) sCap*i.bytes):=by omega
 have sX:(match c6 with | .int _=>true|_=>false)=false:=by cases c6<;>first|rfl|exact absurd C (cm _)
 simp [Builtin.append_,run_underlying aN,run_underlying cZ,sizeOf,typeInfo,zeroValue,aQ,bO,sX,aB,az,Q7,Q8,Question.forced,aZ,pA,newRow,grownCap];congr 2;apply am';simp [ae']
def kh (sz:Nat) (x:af):Bool:=match cellsOf x with
 | some cs=>ac' cs.length sz&&cs.all fa
 | none=>false
theorem Q9 {w:World} {p:bT} {sz:Nat}:∀ {vs:List Value} {xs:List af},bF w p vs xs→(∀ x∈xs,kh sz x=true)→∀ u∈flat vs,u.oneCell'=true:=by
 intro vs
 induction vs with
 | nil=>intro xs _ _ u hu;simp [flat] at hu
 | cons v vs a6=>
  intro xs h ab u hu;cases h with
  | cons _ x _ xs aF aN=>
  simp only [flat,ah4,ac9] at hu;rcases hu with hu|hu
  ·have:=ab x (i7 ..)
   unfold kh at this;split at this
   ·rename_i cs hD
    simp only [f7] at this;exact qs (qn aF hD) this.2 u hu
   ·cases this
  ·exact a6 aN (fun y ay=>ab y (i5 _ ay)) u hu
theorem qu {w:World} {p:bT} {v:Value} {sz sz':Nat} {xs:List af} {own:bM} (h:Rel w p v (.aC sz xs own)) (ca:xs=[]∨sz=sz') :
  ∃ vs,bF w p vs xs∧(∀ u∈vs,u.cells.size=sz')∧(∀ P,(Builtin.lenOf v).run P w = .ok xs.length w) ∧
   (∀ P (w':World),(∀ b o,p b o→w'.cell? ⟨b,o,none⟩=w.cell? ⟨b,o,none⟩)→(Builtin.firstCells sz' xs.length v).run P w' = .ok (flat vs).toArray w') ∧
   ∃ base cap,v = .slice base xs.length cap:=by
 cases h with
 | hY _ _ _=>exact ⟨[],.nil,by simp,fun P=>rfl,fun P w' _=>rfl,_,_,rfl⟩
 | iA a _ _ _=>exact ⟨[],.nil,by simp,fun P=>rfl,fun P w' _=>run_firstCells_some w' sz' 0 a _ _ [] ba ba,_,_,rfl⟩
 | aC g off n cap _ vs _ _ az aB aA aF au hm aD ct ah=>
  have vS:∀ u∈vs,u.cells.size=sz':=by
   rcases ca with rfl|rfl
   ·have:vs=[]:=af5 (by rw [aF.length];rfl)
    subst this;simp
   ·exact au
  subst aB;refine ⟨vs,aF,vS,fun P=>rfl,fun P w' iO=>?_,_,_,rfl⟩;refine run_firstCells_some w' sz' xs.length ⟨g,off,none⟩ _ _ (flat vs) (by rw [vP vS,aF.length]) ?_;intro j u hu;obtain ⟨U,ae⟩:=aA j u hu;rw [lo,iO _ _ U];exact ae
theorem a7.append (aP:bQ P Γ) {o:Oper} {t bH e:TypeId} {x y:Operand} {it cw aG:bN} {dZ bU:Nat} {xs ys:List af} {rF dk:bM}
    (ah:o.op = .call { callee := .builtin .append,args := #[x,y],argTypes := #[t,bH] }) (aN:Γ.get? t=some it) (bs:it.bG = .aC e) (cZ:Γ.get? bH=some cw) (dr:∀ k,cw.bG ≠ .int k)
    (bI:Γ.get? e=some aG) (ab:aL env x=some (.aC dZ xs rF)) (ay:aL env y=some (.aC bU ys dk)) (hE:xs=[]∨dZ=aG.size) (c8:ys=[]∨bU=aG.size)
    (dV:ac' aG.zero.cells.size aG.size=true) (dP:∀ y∈ys,kh aG.size y=true) (aq:(xs.length+ys.length)*aG.bytes≤140737488355328) (er:xs.length+ys.length≤9223372036854775807)
    (zD:(rF = .nil∨rF = .clip)∨∃ b,rF = .own b∧dZ=aG.size∧s b=some (.row e aG.size xs.length)) {X:af→ao→Prop} :
    a7 P N o env s (fun r al=>(ys=[]∧(rF = .nil∨rF = .clip)∧r = .aC aG.size xs rF∧al=s) ∨
      (∃ s₁,(s₁=s∨∃ b,rF = .own b∧s₁=s.del b)∧∃ b,s₁ b=none∧r = .aC aG.size (xs++ys) (.own b)∧al=s₁.set b (.row e aG.size (xs.length+ys.length)))) X:=by
  refine a7.ky (by simp [gJ,ah]) fun ro B a w p aI=>?_
  obtain ⟨info,d,U,ae,an,-⟩:=aP.parts aN;obtain ⟨mK,c6,g1,g2,g3,-⟩:=aP.parts cZ;obtain ⟨jU,kA,cA,db,fe,eH,jV,js⟩:=aP.parts bI;have ax:d = .slice e:=by rw [bs] at an;cases d<;>simp [ez] at an;rw [an]
  subst ax;have cm:∀ k,c6 ≠ .int k:=fun k e'=>by subst e';exact dr k g3.symm
  have gl:=aI.aL ab;have fl:=aI.aL ay;have eM:∀ val w',(Builtin.append_ #[t,bH] o.type #[a.eval x,a.eval y]).run P w = .ok val w'→(execOp a.eval o).run P w = .ok (.value val) w':=by
    intro val w' h;unfold execOp;rw [ah];simp only [resolve,invoke,builtin,aa',ac5,g9,ao2,ac4,ae5,h]
  generalize eA:a.eval x=dX at gl eM;generalize ff:a.eval y=ga at fl eM;obtain ⟨us,il,pB,jW,ki,sY,sZ,s0⟩:=qu fl c8;obtain ⟨vs,uo,mP,abx,Jz,zE,pC,s3⟩:=qu gl hE;have iC:=Q9 il dP;have oM:=ac1 dV;have Fa:=vP pB;have JA:=vP mP;have mQ:=il.length;have s4:=uo.length;have JB:∀ s₁:ao,(s₁=s∨∃ b,rF = .own b∧s₁=s.del b)→pC<xs.length+ys.length →
      ∃ val w' al bk oL,(Builtin.append_ #[t,bH] o.type #[dX,ga]).run P w = .ok val w'∧de w p w' bk∧Kept s al w p w' bk∧dq w' bk al ∧
        (∃ b,s₁ b=none∧oL = .aC aG.size (xs++ys) (.own b)∧al=s₁.set b (.row e aG.size (xs.length+ys.length)))∧Rel w' bk val oL:=by
    intro s₁ vT ar;have hN:ao.Sub s₁ s:=by
      rcases vT with rfl|⟨b,-,rfl⟩
      · exact ao.oN _
      · intro aX;by_cases e':aX=b
        · subst e';exact .inr (ao.nr _ _)
        · exact .inl (ao.mN _ e')
    have fB:=growslice_fits (need:=xs.length+ys.length) (old:=pC) (bytes:=aG.bytes) ar aq;have cN:=zC (ty:=o.type) w ae g2 cm cA js (base:=zE) (sLen:=xs.length) (sCap:=pC) (m:=ys.length) (olds:=flat vs) (news:=flat us) (jW P)
      (by rw [← s3,eH];exact Jz P w.drew (fun _ _ _=>rfl)) (by rw [eH];exact ki P w.drew (fun _ _ _=>rfl)) ar ag (by rw [jV];exact fB)
    rw [← s3] at cN;have ns:=ai' (show xs.length+ys.length≤xs.length+ys.length from i0 _) (show xs.length+ys.length≤grownCap w (xs.length+ys.length) pC e from by simp [grownCap,Question.cut]);have nt:(Builtin.zeroCells aG.zero.cells (grownCap w (xs.length+ys.length) pC e-(xs.length+ys.length))).toList.length=(grownCap w (xs.length+ys.length) pC e-(xs.length+ys.length))*aG.zero.cells.size:=by
      rw [ac7];simp [Builtin.zeroCells]
    rw [oM] at nt;have Co:(xs++ys).length=xs.length+ys.length:=f8;obtain ⟨bk,ek,dj,dT,mO,s5⟩:=Q3 (s:=s₁) (aI.wf.sub hN) (vs:=vs++us) (xs:=xs++ys) (sz:=aG.size) (cap:=grownCap w (xs.length+ys.length) pC e) (e:=e)
      (cur:=(flat vs++flat us++(Builtin.zeroCells aG.zero.cells (grownCap w (xs.length+ys.length) pC e-(xs.length+ys.length))).toList).toArray) (uo.append il)
      (fun v av=>by rcases ac9.1 av with av|av;exact mP v av;exact pB v av)
      (by
        simp only [ak7,f8,JA,Fa,nt,s4,mQ,← ah']
        congr 1;omega)
      (by
        have:(xs++ys).length*aG.size=(flat vs++flat us).length:=by rw [Co,f8,JA,Fa,s4,mQ,ah']
        rw [this,E'];simp only [av1])
      (by rw [Co];exact ns) (by rw [Co];exact er)
    rw [Co] at dT mO s5;exact ⟨_,_,_,bk,_,cN,dj,dT.xM hN,mO,⟨w.heap.size,ek,rfl,rfl⟩,s5⟩
  rcases zD with zD|⟨b,rfl,Q',vR⟩
  · by_cases ar:pC<xs.length+ys.length
    · obtain ⟨val,w',al,bk,oL,fs,gD,hs,jc,mh,mi⟩:=JB s (.inl rfl) ar
      exact ⟨val,w',al,bk,oL,eM _ _ fs,gD,hs,jc,.inr ⟨s,.inl C,mh⟩,mi⟩
    ·
      have kC:pC=xs.length:=by
        cases gl with
        | hY=>simp at s3;omega
        | iA=>simp at s3;omega
        | aC g off n cap _ vs' _ _ az aB aA aF au hm aD ct ah=>
          simp only [Value.slice.injEq] at s3;rcases zD with rfl|rfl
          · exact absurd C az
          · rw [← s3.2.2,ct C,aB]
      have sQ:ys=[]:=af5 ag;subst sQ;have Cj:us=[]:=af5 (by simpa using mQ);subst Cj;refine ⟨dX,w,s,p,.aC aG.size xs rF,eM _ _ ?_,.refl w p,.refl s w p,aI.wf,.inl ⟨rfl,zD,rfl,rfl⟩,?_⟩
      · have bO:(match c6 with | .int _=>true|_=>false)=false:=by cases c6<;>first|rfl|exact absurd C (cm _)
        have hle:xs.length≤pC:=by omega
        have pD:=ki P w (fun _ _ _=>rfl);simp only [List.length_nil] at pD jW;have uq:=jW P;rw [s3];cases zE with
        | none=>simp [Builtin.append_,run_underlying ae,run_underlying g2,sizeOf,typeInfo,cA,bO,uq,eH,pD,hle,flat]
        | some acL=>simp [Builtin.append_,run_underlying ae,run_underlying g2,sizeOf,typeInfo,cA,bO,uq,eH,pD,hle,flat,storeCells]
      · rcases hE with rfl|rfl
        · cases gl with
          | hY _ _ h=>exact .hY _ _ h
          | iA a _ _ h=>exact .iA a _ _ h
          | aC g off n cap _ vs' _ _ az aB aA aF au hm aD ct ah=>
            have:vs'=[]:=af5 (by rw [aF.length];rfl);subst this;exact .aC g off n cap _ [] _ _ az aB aA aF ba hm aD ct (fun b aq=>by rcases zD with rfl|rfl<;>cases aq)
        · exact gl
  · by_cases ar:pC<xs.length+ys.length
    · obtain ⟨val,w',al,bk,oL,fs,gD,hs,jc,mh,mi⟩:=JB (s.del b) (.inr ⟨b,rfl,rfl⟩) ar
      exact ⟨val,w',al,bk,oL,eM _ _ fs,gD,hs,jc,.inr ⟨_,.inr ⟨b,rfl,rfl⟩,mh⟩,mi⟩
    · cases gl with
      | hY _ _ h=>exact absurd C (h b)
      | iA _ _ _ h=>rcases h with h|h<;>cases h
      | aC g off n cap _ vs' _ _ az aB aA aF au hm aD ct ah=>
        obtain ⟨rfl,rfl,e',JC⟩:=ah b rfl;obtain ⟨cur,c7,dh,⟨cf,e3⟩,pE⟩:=aI.wf.obj _ _ vR;simp only [Value.slice.injEq] at s3;obtain ⟨rfl,-,rfl⟩:=s3;have oO:cur.size=cap*dZ:=by
          simp only [World.kU,c7] at JC;simpa using congrArg Prod.snd (al8.inj JC)
        have Fb:cur.size=cap*aG.size:=by rw [← Q'];exact oO
        have vQ:cur.toList.take (xs.length*aG.size)=flat vs:=by
          have cb:=Jz P w (fun _ _ _=>rfl);have b1:=run_firstCells_some (P:=P) w aG.size xs.length ⟨b,0,none⟩ n cap (cur.toList.take (xs.length*aG.size))
            (by have ct:cur.toList.length=cap*aG.size:=by rw [ac7,Fb]
                rw [ac8,ct];have:=ak3 aG.size (show xs.length≤cap by omega);omega)
            (fun j u hu=>by
              rw [lo,ae4,jJ c7]
              rw [af'] at hu
              split at hu
              · simpa using hu
              · cases hu)
          rw [b1] at cb;have:=Result.ok.inj cb;simpa using this.1
        have cN:=Cn (ty:=o.type) w ae g2 cm cA b xs.length cap cur c7 (jW P) (by rw [eH];exact ki P w (fun _ _ _=>rfl)) iC ag (by rw [eH,Fa,Fb,mQ,← ah'];exact ak3 _ ag);rw [eH] at cN;obtain ⟨bk,fs,gD,hs,jc⟩:=Q4 aI.wf vR c7 Fb rfl uo il mP pB vQ (by rw [mQ];omega) (by rw [mQ];exact er);rw [mQ] at gD hs jc;subst aB;exact ⟨_,_,_,bk,_,eM _ _ cN,fs,gD,hs,.inr ⟨_,.inr ⟨_,rfl,rfl⟩,_,ao.nr _ _,rfl,rfl⟩,jc⟩
end
inductive eB where
 | ret (v:af)
 | panic (v:af)
def Ra (w:World) (p:bT):Ending→eB→Prop
 | .returned v,.ret x=>Rel w p v x
 | .panicked dF,.panic x=>∃ v,xK v dF∧Rel w p v x
 | _,_=>False
def vU (s:ao) (w:World) (p:bT) (R:eB→ao→Prop) (e:Ending) (w':World):Prop:=
 ∃ o al bk,Ra w' bk e o∧R o al∧de w p w' bk∧Kept s al w p w' bk∧dq w' bk al
def hT (P:Program) (fv:af) (args:List af) (s:ao) (R:eB→ao→Prop):Prop:=
 ∀ w p v vs,dq w p s→Rel w p v fv→bF w p vs args→pv P ((do let d ← Deferred.ofValue v vs.toArray;invoke d.target d.args:Sem Next).run P w) (vU s w p R)
def s6 (P:Program) (f:FuncId):Prop:=∀ args w,(callFunc f args).run P w = .ok (.enter f args) w
def hi (P:Program) (f:FuncId) (args:List af) (s:ao) (R:eB→ao→Prop):Prop:=
 s6 P f∧∀ w p vs,dq w p s→bF w p vs args→sJ P f vs.toArray w (vU s w p R)
theorem zF {P:Program} {f:FuncId} {fn:Func} (aZ:P.funcs[f]? = some fn) (az:(fn.name == "runtime.NumGoroutine")=false) (aq:fn.body.isNone=false):s6 P f:=by
 intro args w;unfold callFunc;simp only [aa',run_program,g9,aZ,az,aq,ad4,if_false,ac5]
theorem vU.mono {s:ao} {w:World} {p:bT} {R dx:eB→ao→Prop} (aF:∀ o s,R o s→dx o s) {e:Ending} {w':World} (h:vU s w p R e w'):vU s w p dx e w' :=
 let ⟨o,al,bk,U,ae,an⟩:=h;⟨o,al,bk,U,aF _ _ ae,an⟩
theorem hT.mono {P:Program} {fv:af} {args:List af} {s:ao} {R dx:eB→ao→Prop} (h:hT P fv args s R) (aF:∀ o s,R o s→dx o s):hT P fv args s dx :=
 fun w p v vs U ae an=>(h w p v vs U ae an).mono fun _ _ q=>q.mono aF
theorem hi.mono {P:Program} {f:FuncId} {args:List af} {s:ao} {R dx:eB→ao→Prop} (h:hi P f args s R) (aF:∀ o s,R o s→dx o s):hi P f args s dx :=
 ⟨h.1,fun w p vs U ae=>(h.2 w p vs U ae).mono fun _ _ q=>q.mono aF⟩
theorem hT.fp {P:Program} {f:FuncId} {first cap args:List af} {s:ao} {R:eB→ao→Prop} (h:hi P f (first++(args++cap)) s R):hT P (.func f first cap) args s R:=by
 intro w p v vs cd av eL;cases av with
 | func _ as cs _ _ a8 aA=>
 have cN:(do let d ← Deferred.ofValue (.func (.func f) as cs) vs.toArray;invoke d.target d.args:Sem Next).run P w = .ok (.enter f (as++vs.toArray++cs)) w:=by
  simp only [Deferred.ofValue,aa',ac5,g9,invoke];exact h.1 _ _
 rw [cN];have:=h.2 w p (as.toList++(vs++cs.toList)) cd (a8.append (eL.append aA));have e:(as.toList++(vs++cs.toList)).toArray=as++vs.toArray++cs:=by apply am';simp
 rw [e] at this;exact this
section
variable {P:Program} {Γ:cz} {N:Nat} {env:Env} {s:ao}
theorem a7.call {o:Oper} {g:Operand} {as:Array Operand} {c0:Array TypeId} {fv:af} {xs:List af} {R:eB→ao→Prop}
  (ah:o.op = .call { callee := .value g,args:=as,argTypes:=c0 }) (aw:aL env g=some fv) (a8:fQ env as.toList=some xs) (h:hT P fv xs s R) :
  a7 P N o env s (fun x al=>R (.ret x) al) (fun x al=>R (.panic x) al):=by
 refine ⟨by simp [gJ,ah],fun ro B a w p aI=>?_⟩;have cN:=h w p (a.eval g) (as.toList.map a.eval) aI.wf (aI.aL aw) (B' aI a8);have he:execOp a.eval o=(do let d ← Deferred.ofValue (a.eval g) (as.toList.map a.eval).toArray;invoke d.target d.args:Sem Next):=by
  unfold execOp;rw [ah];simp only [resolve];congr 1;congr 1;apply am';simp
 rw [he];refine cN.mono ?_;rintro e w' ⟨out,al,bk,U,ae,an,bd,bD⟩;refine ⟨al,bk,an,bd,bD,?_⟩;cases e<;>cases out<;>first|exact U.elim|skip
 ·exact ⟨_,ae,U⟩
 ·obtain ⟨v,Fc,Fe⟩:=U;exact ⟨v,_,Fc,ae,Fe⟩
theorem fH.call {ops:Array Oper} {Q:b8→Env→ao→Prop} {i:Nat} {l:List Nat} {o:Oper} {d:Nat} {f:FuncId} {as:Array Operand} {c0:Array TypeId} {xs:List af} {R:eB→ao→Prop}
  (ah:ops[i]? = some o) (aw:guardOf ops env o=some true) (ax:o.dst=some d) (aW:t6 d N=true) (b5:o.op = .call { callee := .value (.func f),args:=as,argTypes:=c0 })
  (a8:fQ env as.toList=some xs) (h:hi P f xs s R) (aD:∀ x al,R (.ret x) al→fH P N ops l Q ((d,x)::env) al) (ab:∀ x al,R (.panic x) al→Q (.panic x) env al) :
  fH P N ops (i::l) Q env s:=
 fH.op ah aw ax aW (a7.call b5 (fv := .func f [] []) C a8 (hT.fp fZ)) aD ab
theorem fH.Ff {ops:Array Oper} {Q:b8→Env→ao→Prop} {i:Nat} {l:List Nat} {o:Oper} {d:Nat} {g:Operand} {fv:af} {as:Array Operand} {c0:Array TypeId} {xs:List af} {R:eB→ao→Prop}
  (ah:ops[i]? = some o) (aw:guardOf ops env o=some true) (ax:o.dst=some d) (aW:t6 d N=true) (b5:o.op = .call { callee := .value g,args:=as,argTypes:=c0 })
  (av:aL env g=some fv) (a8:fQ env as.toList=some xs) (h:hT P fv xs s R) (aD:∀ x al,R (.ret x) al→fH P N ops l Q ((d,x)::env) al) (ab:∀ x al,R (.panic x) al→Q (.panic x) env al) :
  fH P N ops (i::l) Q env s:=
 fH.op ah aw ax aW (a7.call b5 av a8 h) aD ab
def pF (P:Program) (t:TypeId) (name:String) (f:FuncId):Prop:=∀ v w,(method (P.types.size+Made.depth) t v name).run P w = .ok (f,v) w
theorem Rb {P:Program} {t:TypeId} {name:String} {f:FuncId} {info:TypeInfo} {m:Method} {d:TypeDesc} (aQ:P.info? t=some info) (hm:info.methods.find? (·.name==name)=some m) (aE:m.path = #[])
  (aZ:m.func=some (f,false)) (ax:P.underlying t=some d) (Rc:∀ e,d ≠ .pointer e) (Re:∃ n,P.types.size+Made.depth=n+1):pF P t name f:=by
 intro v w;obtain ⟨n,az⟩:=Re;rw [az];unfold method;simp only [aa',typeInfo,run_program,g9,aQ,ac5,hm,aE,follow,aZ,receiverAt,run_underlying ax];cases d<;>first|exact absurd C (Rc _)|rfl
theorem Rf {name:String} {cap args:Array Value}:Go.invoke (.fn (.method name) cap) args=(match args[0]? with
  | some recv=>callMethod recv name (args.extract 1 args.size)
  | none=>stuck "call: a method without a receiver"):=by
 cases h:args[0]? <;> simp [Go.invoke,h]
theorem a7.invoke {o:Oper} {g:Operand} {name:String} {as:Array Operand} {c0:Array TypeId} {t:TypeId} {v:af} {f:FuncId} {xs:List af} {R:eB→ao→Prop}
  (ah:o.op = .call { callee := .invoke g name,args:=as,argTypes:=c0 }) (aw:aL env g=some (.iface t v)) (a8:fQ env as.toList=some xs) (hm:pF P t name f) (h:hi P f (v::xs) s R) :
  a7 P N o env s (fun x al=>R (.ret x) al) (fun x al=>R (.panic x) al):=by
 refine ⟨by simp [gJ,ah],fun ro B a w p aI=>?_⟩;have mj:=aI.aL aw;generalize Rg:a.eval g=acP at mj;cases mj with
 | iface _ val _ oQ=>
 have cN:(execOp a.eval o).run P w = .ok (.enter f (#[val]++(as.map a.eval))) w:=by
  unfold execOp;rw [ah];have hex:(#[Value.iface t val]++as.map a.eval).extract 1 (#[Value.iface t val]++as.map a.eval).size=as.map a.eval:=by
   apply am';simp [as3,List.take_of_length_le]
  have br:(#[Value.iface t val]++as.map a.eval)[0]? = some (Value.iface t val):=by
   rw [aq2 ba];rfl
  simp only [resolve,Rg,aa',ac5,g9];rw [cW.Rf,br];simp only [hex,callMethod,aa',run_program,g9,hm val w];exact h.1 _ _
 rw [cN];have:=h.2 w p (val::as.toList.map a.eval) aI.wf (.cons _ _ _ _ oQ (B' aI a8));have e:(val::as.toList.map a.eval).toArray = #[val]++(as.map a.eval):=by apply am';simp
 rw [e] at this;refine this.mono ?_;rintro e w' ⟨out,al,bk,U,ae,an,bd,bD⟩;refine ⟨al,bk,an,bd,bD,?_⟩;cases e<;>cases out<;>first|exact U.elim|skip
 ·exact ⟨_,ae,U⟩
 ·obtain ⟨v,Fc,Fe⟩:=U;exact ⟨v,_,Fc,ae,Fe⟩
theorem a7.panic {o:Oper} {x:Operand} {t:TypeId} {v:af} (ah:o.op = .panic x) (ab:aL env x=some (.iface t v)) {K:af→ao→Prop}:a7 P N o env s K (fun u al=>u = .iface t v∧al=s):=by
 refine ⟨by simp [gJ,ah],fun ro B a w p aI=>?_⟩;have aF:=aI.aL ab;generalize av:a.eval x=dX at aF;cases aF with
 | iface _ val _ oQ=>
 have cN:(execOp a.eval o).run P w = .halt (.panic (.iface t val)) w:=by
  unfold execOp;rw [ah];simp only [av,Instr.panic,aa',run_goPanic,Result.andThen_halt]
 rw [cN];exact ⟨s,p,.refl w p,.refl s w p,aI.wf,_,_,xK.one _,⟨rfl,rfl⟩,.iface _ _ _ oQ⟩
theorem JD {sz:Nat}:∀ {vs:List Value} (_:∀ v∈vs,v.cells.size=sz) {j:Nat} {v:Value} (_:vs[j]? = some v) (k:Nat) {u:Value} (_:v.cells.toList[k]? = some u),(flat vs)[j*sz+k]? = some u:=by
 intro vs
 induction vs with
 | nil=>intro _ j v av;simp at av
 | cons x vs a6=>
  intro au j v av k u hu;have ab:=au x (i7 ..);simp only [flat,ah4];cases j with
  | zero=>
   simp at av;subst av;rw [Nat.zero_mul,ae4,ad6 (ac3.1 hu).1];exact hu
  | succ j=>
   have aB:x.cells.toList.length=sz:=by rw [ac7,ab]
   have:=a6 (fun v av=>au v (i5 _ av)) (by simpa using av) k hu;rw [ad5 (by rw [aB,ah'];omega),aB];have he:(j+1)*sz+k-sz=j*sz+k:=by rw [ah'];omega
   rw [he];exact this
theorem a7.idx (aP:bQ P Γ) {o:Oper} {t e:TypeId} {x y:Operand} {it aG:bN} {xs:List af} {own:bM} {k:IntKind} {i:Int} {j:Nat} {v:af} {cs:List af} (ah:o.op = .indexAddr t x y)
  (aN:Γ.get? t=some it) (bs:it.bG = .aC e) (bI:Γ.get? e=some aG) (ab:aL env x=some (.aC aG.size xs own)) (ay:aL env y=some (.int k i)) (eN:i=(j:Int)) (aK:xs[j]? = some v)
  (aA:cellsOf v=some cs) {X:af→ao→Prop}:a7 P N o env s (fun r al=>r = .bA cs 0∧al=s) X:=by
 refine a7.ky (by simp [gJ,ah]) fun ro B a w p aI=>?_
 obtain ⟨info,d,U,ae,an,-⟩:=aP.parts aN;obtain ⟨jU,kA,cA,db,fe,eH,-⟩:=aP.parts bI;have ax:d = .slice e:=by rw [bs] at an;cases d<;>simp [ez] at an;rw [an]
 subst ax;have aF:=aI.aL ab;have jd:=aI.aL ay;generalize eA:a.eval x=dX at aF;generalize ff:a.eval y=ga at jd;cases jd;subst eN;have vV:j<xs.length:=(ac3.1 aK).1;cases aF with
 | hY=>simp at aK
 | iA=>simp at aK
 | aC g off n cap _ vs _ _ az aB ct hh au hm aD JE cF=>
 obtain ⟨u,hu,zv⟩:=hh.get aK;have nq:=qn zv aA;refine ⟨.pointer (some ⟨g,off+j*aG.size,none⟩),w,s,p,_,?_,.refl w p,.refl s w p,aI.wf,⟨rfl,rfl⟩,.bA g (off+j*aG.size) _ 0 u.cells.toList cs C ?_ nq⟩
 ·unfold execOp
  rw [ah];simp only [eA,ff];refine gV ?_;have ar:(0:Int)≤(j:Int)∧(j:Int)<(n:Int):=by omega
  simp [Instr.indexAt,asIntOf,run_underlying ae,ar.2,sizeOf,typeInfo,cA,eH,lo];intro aV;omega
 ·intro i fz kz
  have:=ct (j*aG.size+i) fz (JD au hu i kz);rw [← al3] at this;exact this
end
def vW (Γ:cz) (o:Oper) (env:Env):Option af:=
  match o.op with
  | .binOp .quo _ x (.const (.int k (.ofNat (n+1)))) _=>match aL env x with
    | some (.int k' a)=>if k'=k then some (.int k (k.wrap (a.tdiv (ap' (n+1))))) else none
    | _=>none
  | .binOp .rem _ x (.const (.int k (.ofNat (n+1)))) _=>match aL env x with
    | some (.int k' a)=>if k'=k then some (.int k (a.tmod (ap' (n+1)))) else none
    | _=>none
  | .convert s d x=>match Γ.get? s,Γ.get? d with
    | some ⟨.int _,_,_,_⟩,some ⟨.int k,_,_,_⟩=>match aL env x with
      | some (.int _ n)=>some (.int k (k.wrap n))
      | _=>none
    | _,_=>none
  | .call { callee := .builtin .max,args,argTypes:=_ }=>match args.toList with
    | [x,y]=>match aL env x,aL env y with
      | some (.int k a),some (.int _ b)=>some (.int k (if b>a then b else a))
      | _,_=>none
    | _=>none
  | .call { callee := .builtin .min,args,argTypes:=_ }=>match args.toList with
    | [x,y]=>match aL env x,aL env y with
      | some (.int k a),some (.int _ b)=>some (.int k (if b<a then b else a))
      | _,_=>none
    | _=>none
  | _=>none
section
variable {P:Program} {Γ:cz} (aP:bQ P Γ) {N:Nat} {B:fP} {ro:Option Nat} {env:Env} {s:ao} {a:Act} {w:World} {p:bT} (aI:dz N B ro env s a w p)
theorem ur {o:Oper} {op:BinOp} {t yt:TypeId} {x y:Operand} {v:Value} {r:af} (ah:o.op = .binOp op t x y yt)
  (U:(eqGuard op t x y (a.eval x) (a.eval y)).run P w = .ok () w) (ae:(binOp op t (a.eval x) (a.eval y)).run P w = .ok v w) (aF:Rel w p v r):gU P o a w p r:=by
 refine .same (val:=v) ?_ aF;unfold execOp;rw [ah];refine gV ?_;rw [aa',U,g9,ae]
include aI
include aP
theorem Rh {o:Oper} {v:af} (h:vW Γ o env=some v):gU P o a w p v:=by
 unfold vW at h;split at h
 ·rename_i t x k n yt ah
  split at h
  ·rename_i k' u ab
   split at h
   ·rename_i aD
    cases h;subst aD;have U:=aI.aL ab;generalize av:a.eval x=dX at U;cases U;refine ur (v := .int k' (k'.wrap (u.tdiv (ap' (n+1))))) ah ?_ ?_ (.int _ _)
    ·rfl
    ·rw [av]
     have az:¬ (ap' (n+1)=0):=by simp;omega
     simp only [Act.eval,binOp,Op.intDiv,ne_eq,not_true_eq_false,if_false,az,ac5]
   ·cases h
  ·cases h
 ·rename_i t x k n yt ah
  split at h
  ·rename_i k' u ab
   split at h
   ·rename_i aD
    cases h;subst aD;have U:=aI.aL ab;generalize av:a.eval x=dX at U;cases U;refine ur (v := .int k' (u.tmod (ap' (n+1)))) ah ?_ ?_ (.int _ _)
    ·rfl
    ·rw [av]
     have az:¬ (ap' (n+1)=0):=by simp;omega
     simp only [Act.eval,binOp,Op.intDiv,ne_eq,not_true_eq_false,if_false,az,ac5]
   ·cases h
  ·cases h
 ·rename_i jX d x ah
  split at h
  ·rename_i JF di a2 a3 k hP dA nu au ax
   split at h
   ·rename_i cA n ab
    cases h;obtain ⟨info,d1,U,ae,an,-⟩:=aP.parts au;obtain ⟨mK,JG,nT,nU,vH,-⟩:=aP.parts ax;have cb:JG = .int k:=by cases JG<;>simp [ez] at vH;rw [vH]
    have aF:=aI.aL ab;generalize av:a.eval x=dX at aF;cases aF;refine .same (val := .int k (k.wrap n)) ?_ (.int _ _);unfold execOp;rw [ah];refine gV ?_;subst cb;rw [av];cases d1<;>simp [ez] at an
    simp [convert,run_underlying ae,run_underlying nU,Conv.intToInt]
   ·cases h
  ·cases h
 ·rename_i args gv ah
  split at h
  ·rename_i x y aB
   have vX:args = #[x,y]:=by apply am';simpa using aB
   subst vX;split at h
   ·rename_i k u k' fz ab ay
    cases h;have U:=aI.aL ab;have ae:=aI.aL ay;generalize eA:a.eval x=dX at U;generalize ff:a.eval y=ga at ae;cases U;cases ae;refine .same (val := .int k (if fz>u then fz else u)) ?_ (.int _ _);unfold execOp;rw [ah];simp only [resolve,invoke,builtin,aa',ac5,g9,ao2,ac4,ae5,eA,ff,run_max_int2]
   ·cases h
  ·cases h
 ·rename_i args gv ah
  split at h
  ·rename_i x y aB
   have vX:args = #[x,y]:=by apply am';simpa using aB
   subst vX;split at h
   ·rename_i k u k' fz ab ay
    cases h;have U:=aI.aL ab;have ae:=aI.aL ay;generalize eA:a.eval x=dX at U;generalize ff:a.eval y=ga at ae;cases U;cases ae;refine .same (val := .int k (if fz<u then fz else u)) ?_ (.int _ _);unfold execOp;rw [ah];simp only [resolve,invoke,builtin,aa',ac5,g9,ao2,ac4,ae5,eA,ff,run_min_int2]
   ·cases h
  ·cases h
 ·cases h
omit aI aP in
theorem Ri {o:Oper} {v:af} (h:vW Γ o env=some v):gJ o=true:=by
 unfold gJ;cases ah:o.op<;>first|rfl|(unfold vW at h;rw [ah] at h;cases h)
omit aP in
theorem Rk {o:Oper} {t yt:TypeId} {x y:Operand} {u v:List UInt8} (ah:o.op = .binOp .add t x y yt) (ab:aL env x=some (.str u)) (ay:aL env y=some (.str v)) (aB:u.length+v.length≤9223372036854775807) :
  gU P o a w p (.str (u++v)):=by
 have U:=aI.aL ab;have ae:=aI.aL ay;generalize eA:a.eval x=dX at U;generalize ff:a.eval y=ga at ae;cases U with|str hP _ cb=>cases ae with|str dA _ b1=>
 refine ur (v := .string (hP++dA)) ah ?_ ?_ ?_
 ·exact rfl
 ·rw [eA,ff]
  have au:¬ ((hP.size+dA.size:Nat):Int)>IntKind.i64.max:=by
   have di:hP.size=u.length:=by rw [← cb];simp
   have a2:dA.size=v.length:=by rw [← b1];simp
   have:IntKind.i64.max=9223372036854775807:=by decide
   rw [di,a2,this];omega
  simp only [binOp,Op.stringOp,d9 au,ac5]
 ·exact .str _ _ (by rw [← cb,← b1];simp [ByteArray.data_append])
theorem Rl {o:Oper} {t e:TypeId} {x y:Operand} {it aG:bN} {sz:Nat} {xs:List af} {own:bM} {k:IntKind} {i:Int} {j:Nat} {v:af} {cs:List af} (ah:o.op = .indexAddr t x y)
  (aN:Γ.get? t=some it) (bs:it.bG = .aC e) (bI:Γ.get? e=some aG) (ab:aL env x=some (.aC sz xs own)) (ca:sz=aG.size) (ay:aL env y=some (.int k i)) (eN:i=(j:Int)) (aK:xs[j]? = some v)
  (aA:cellsOf v=some cs):gU P o a w p (.bA cs 0):=by
 subst ca;obtain ⟨info,d,U,ae,an,-⟩:=aP.parts aN;obtain ⟨jU,kA,cA,db,fe,eH,-⟩:=aP.parts bI;have ax:d = .slice e:=by rw [bs] at an;cases d<;>simp [ez] at an;rw [an]
 subst ax;have aF:=aI.aL ab;have jd:=aI.aL ay;generalize eA:a.eval x=dX at aF;generalize ff:a.eval y=ga at jd;cases jd;subst eN;have vV:j<xs.length:=(ac3.1 aK).1;cases aF with
 | hY=>simp at aK
 | iA=>simp at aK
 | aC g off n cap _ vs _ _ az aB ct hh au hm aD JE cF=>
 obtain ⟨u,hu,zv⟩:=hh.get aK;have nq:=qn zv aA;refine .same (val := .pointer (some ⟨g,off+j*aG.size,none⟩)) ?_ (.bA g (off+j*aG.size) _ 0 u.cells.toList cs C ?_ nq)
 ·unfold execOp
  rw [ah];simp only [eA,ff];refine gV ?_;have ar:(0:Int)≤(j:Int)∧(j:Int)<(n:Int):=by omega
  simp [Instr.indexAt,asIntOf,run_underlying ae,ar.2,sizeOf,typeInfo,cA,eH,lo];intro aV;omega
 ·intro i fz kz
  have:=ct (j*aG.size+i) fz (JD au hu i kz);rw [← al3] at this;exact this
theorem Rm {o:Oper} {t:TypeId} {x y:Operand} {it:bN} {l:List UInt8} {k:IntKind} {i:Int} {j:Nat} {b:UInt8} (ah:o.op = .index t x y)
  (aN:Γ.get? t=some it) (bs:it.bG = .str) (ab:aL env x=some (.str l)) (ay:aL env y=some (.int k i)) (eN:i=(j:Int)) (aK:l[j]? = some b) :
  gU P o a w p (.int .u8 b.toNat):=by
 obtain ⟨info,d,U,ae,an,-⟩:=aP.parts aN;have ax:d = .string:=by rw [bs] at an;cases d<;>simp [ez] at an;rfl
 subst ax;have aF:=aI.aL ab;have jd:=aI.aL ay;generalize eA:a.eval x=dX at aF;generalize ff:a.eval y=ga at jd;cases jd;subst eN;cases aF with
 | str mR _ e=>
 have aw:mR[j]? = some b:=by
  rw [← e] at aK;have:mR.data[j]? = some b:=by simpa using aK
  exact this
 refine .same (val := .int .u8 b.toNat) ?_ (.int _ _);unfold execOp;rw [ah];simp only [eA,ff];refine gV ?_;simp [Instr.index,asIntOf,run_underlying ae,aw]
omit aI aP in
theorem Ro {sz:Nat}:∀ {vs:List Value} (_:∀ v∈vs,v.cells.size=sz) (l:Nat) (i:Nat),l≤vs.length→(flat (vs.drop l))[i]? = (flat vs)[l*sz+i]?:=by
 intro vs
 induction vs with
 | nil=>
  intro _ l i aB;have:l=0:=by simpa using aB
  subst this;simp
 | cons v vs a6=>
  intro au l i aB;cases l with
  | zero=>simp
  | succ l=>
   have av:=au v (i7 ..);rw [as6,a6 (fun v av=>au v (i5 _ av)) l i (by simpa using aB)];simp only [flat,ah4];rw [ad5 (by rw [ac7,av,ah'];omega),ac7,av];congr 1;rw [ah'];omega
omit aI aP in
theorem Rq {vs:List Value} (h:Nat) {i:Nat} {u:Value} (hu:(flat (vs.take h))[i]? = some u):(flat vs)[i]? = some u:=by
 have:flat vs=flat (vs.take h)++flat (vs.drop h):=by rw [← E',List.take_append_drop]
 rw [this,ad6 (ac3.1 hu).1];exact hu
theorem Rr {o:Oper} {t e:TypeId} {x:Operand} {gE aQ jt:Option Operand} {it aG:bN} {sz:Nat} {xs:List af} {own cQ:bM} {l h:Nat} (ah:o.op = .slice t x gE aQ jt)
  (aN:Γ.get? t=some it) (bs:it.bG = .aC e) (bI:Γ.get? e=some aG) (ab:aL env x=some (.aC sz xs own)) (ca:xs=[]∨sz=aG.size)
  (hF:(gE=none∧l=0)∨∃ y k,gE=some y∧aL env y=some (.int k (l:Int))) (qv:(aQ=none∧jt=none∧h=xs.length)∨∃ y k,aQ=some y∧aL env y=some (.int k (h:Int)))
  (nv:(jt=none∧cQ = .bc)∨(∃ y k,jt=some y∧aL env y=some (.int k (h:Int))∧cQ = .clip)) (aB:l≤h) (cP:h≤xs.length):gU P o a w p (.aC sz ((xs.take h).drop l) cQ):=by
 obtain ⟨info,d,U,ae,an,-⟩:=aP.parts aN;obtain ⟨jU,kA,cA,db,fe,eH,-⟩:=aP.parts bI;have ax:d = .slice e:=by rw [bs] at an;cases d<;>simp [ez] at an;rw [an]
 subst ax;have iP:∀ b,cQ ≠ .own b:=by rcases nv with ⟨-,rfl⟩|⟨_,_,-,-,rfl⟩<;>simp
 have uu:cQ ≠ .nil:=by rcases nv with ⟨-,rfl⟩|⟨_,_,-,-,rfl⟩<;>simp
 have pG:∀ {y k} {n:Nat},aL env y=some (.int k (n:Int))→a.eval y = .int k (n:Int):=fun he=>by
  have:=aI.aL he;generalize a.eval _=v at this ⊢;cases this;rfl
 have Rs:∀ (cap:Nat),xs.length≤cap→∃ m,(Instr.sliceBounds true xs.length cap (gE.map a.eval) (aQ.map a.eval) (jt.map a.eval)).run P w = .ok (l,h,m) w∧h≤m∧m≤cap∧(cQ = .clip→m=h):=by
  intro cap kC;have az:∀ n:Nat,(0:Int)≤(n:Int):=fun n=>by omega
  have Fg:(l:Int)≤(h:Int):=by omega
  have Cp:(h:Int)≤(cap:Int):=by omega
  rcases nv with ⟨rfl,rfl⟩|⟨acO,acE,rfl,zG,rfl⟩
  ·rcases qv with ⟨rfl,-,rfl⟩|⟨Rt,Ru,rfl,zH⟩
   ·refine ⟨cap,?_,kC,i0 _,by simp⟩
    rcases hF with ⟨rfl,rfl⟩|⟨JH,nw,rfl,h8⟩
    ·simp [Instr.sliceBounds]
    ·simp [Instr.sliceBounds,pG h8,run_sliceBound,az,Fg]
   ·refine ⟨cap,?_,by omega,i0 _,by simp⟩
    rcases hF with ⟨rfl,rfl⟩|⟨JH,nw,rfl,h8⟩
    ·simp [Instr.sliceBounds,pG zH,run_sliceBound,az,Cp]
    ·simp [Instr.sliceBounds,pG zH,pG h8,run_sliceBound,az,Fg,Cp]
  ·rcases qv with ⟨-,br,-⟩|⟨Rt,Ru,rfl,zH⟩
   ·cases br
   ·refine ⟨h,?_,i0 _,by omega,fun _=>rfl⟩
    rcases hF with ⟨rfl,rfl⟩|⟨JH,nw,rfl,h8⟩
    ·simp [Instr.sliceBounds,pG zH,pG zG,run_sliceBound,az,Cp]
    ·simp [Instr.sliceBounds,pG zH,pG h8,pG zG,run_sliceBound,az,Fg,Cp]
 have eM:∀ base cap val,a.eval x = .slice base xs.length cap→xs.length≤cap→(∀ m,h≤m→m≤cap→(cQ = .clip→m=h)→Rel w p (.slice (if m=l then base else base.map (·.add (l*aG.size))) (h-l) (m-l)) val)→gU P o a w p val:=by
  intro base cap val eA kC eR;obtain ⟨m,aq,qw,ml,Rv⟩:=Rs cap kC;refine .same ?_ (eR m qw ml Rv);unfold execOp;rw [ah];simp only [eA];refine gV ?_;simp only [Instr.sliceAt,Instr.slice,aa',run_underlying ae,g9,aq,sizeOf,typeInfo,run_program,cA,ac5,eH]
 have aF:=aI.aL ab;generalize eA:a.eval x=dX at aF;cases aF with
 | hY _ _ _=>
  refine eM none 0 _ eA (i0 _) (fun m U ae an=>?_);have cb:h=0:=by simpa using cP
  have b1:l=0:=by omega
  have eV:m=0:=by omega
  subst cb;subst b1;subst eV;simp only [if_true,az3,az4];exact .hY _ _ iP
 | iA a _ _ _=>
  refine eM (some a) 0 _ eA (i0 _) (fun m U ae an=>?_);have cb:h=0:=by simpa using cP
  have b1:l=0:=by omega
  have eV:m=0:=by omega
  subst cb;subst b1;subst eV;simp only [if_true,az3,az4];refine .iA a _ _ ?_;cases cQ with
  | bc=>exact .inl C
  | clip=>exact .inr C
  | nil=>exact absurd C uu
  | own b=>exact absurd C (iP b)
 | aC g off n cap _ vs _ _ az lp ct hh au hm aD JE cF=>
  subst lp;refine eM _ cap _ eA aD (fun m U ae an=>?_);have hlen:h-l=((xs.take h).drop l).length:=by simp;omega
  have ft:=hh.length;have Rw:∃ Cq,(if m=l then (some ⟨g,off,none⟩:Option Addr) else (some ⟨g,off,none⟩:Option Addr).map (·.add (l*aG.size)))=some ⟨g,Cq,none⟩∧(m≠l→Cq=off+l*aG.size):=by
   by_cases e:m=l
   ·exact ⟨off,by simp [e],fun h=>absurd e h⟩
   ·exact ⟨off+l*aG.size,by simp [e,lo],fun _=>rfl⟩
  obtain ⟨Cq,Rx,Ry⟩:=Rw;rw [Rx];refine .aC g Cq _ _ sz ((vs.take h).drop l) _ cQ uu hlen ?_ ((hh.take h).drop l) (fun v av=>au v (am1 (List.mem_of_mem_drop av))) ag ag (fun aA=>by have:=an aA;omega) (fun b aq=>absurd aq (iP b));intro i u hu;by_cases e:m=l
  ·have:(vs.take h).drop l=[]:=by apply List.drop_eq_nil_of_le;rw [ac8];omega
   rw [this] at hu;simp [flat] at hu
  ·rw [Ry e]
   have vS:∀ v∈vs.take h,v.cells.size=aG.size:=by
    rcases ca with rfl|rfl
    ·have:vs=[]:=af5 (by rw [ft];rfl)
     subst this;simp
    ·exact fun v av=>au v (am1 av)
   rw [Ro vS l i t'] at hu;have:=ct _ _ (Rq h hu);rw [← al3] at this;exact this
end
def nY (l:List UInt8):List af:=l.map fun b => .int .u8 b.toNat
theorem JI (l:List UInt8):(nY l).length=l.length:=by simp [nY]
theorem JJ {w:World} {p:bT}:∀ (l:List UInt8),bF w p (l.map fun b=>Value.int .u8 b.toNat) (nY l)
 | [] => .nil
 | b::l => .cons _ _ _ _ (.int _ _) (JJ l)
theorem JK {w:World} {p:bT}:∀ {l:List UInt8} {vs:List Value},bF w p vs (nY l)→vs=l.map fun b=>Value.int .u8 b.toNat
  | [],_,h=>by cases h;rfl
  | b::l,_,h=>by
    cases h with|cons v _ vs _ U ae=>
    cases U;rw [JK ae];rfl
section
variable {P:Program} {Γ:cz} (aP:bQ P Γ) {N:Nat} {B:fP} {ro:Option Nat} {env:Env} {s:ao} {a:Act} {w:World} {p:bT} (aI:dz N B ro env s a w p)
include aI aP
omit aI aP in
theorem JL:∀ (l:List UInt8),flat (l.map fun b=>Value.int .u8 b.toNat)=l.map fun b=>Value.int .u8 b.toNat:=by
 intro l
 induction l with
 | nil=>rfl
 | cons b l a6=>simp only [flat,ac4,ah4,Value.cells] at a6 ⊢;rw [a6];rfl
theorem Rz {o:Oper} {jX d e:TypeId} {x:Operand} {is id aG:bN} {sz:Nat} {l:List UInt8} {own:bM} (ah:o.op = .convert jX d x) (au:Γ.get? jX=some is) (ax:Γ.get? d=some id) (jY:is.bG = .aC e) (nx:id.bG = .str)
  (he:Γ.get? e=some aG) (oR:aG.bG = .int .u8) (ab:aL env x=some (.aC sz (nY l) own)):gU P o a w p (.str l):=by
 obtain ⟨i1,d1,di,a2,a3,-⟩:=aP.parts au;obtain ⟨i2,d2,hP,dA,nu,-⟩:=aP.parts ax;obtain ⟨i3,d3,c7,dh,e3,-⟩:=aP.parts he;have cb:d1 = .slice e:=by rw [jY] at a3;cases d1<;>simp [ez] at a3;rw [a3]
 have b1:d2 = .string:=by rw [nx] at nu;cases d2<;>simp [ez] at nu;rfl
 have eV:d3 = .int .u8:=by rw [oR] at e3;cases d3<;>simp [ez] at e3;rw [e3]
 subst cb;subst b1;subst eV;have eM:∀ v,(convert jX d (a.eval x)).run P w = .ok v w→(execOp a.eval o).run P w = .ok (.value v) w:=fun v h=>by
  unfold execOp;rw [ah];exact gV h
 have aF:=aI.aL ab;generalize av:a.eval x=dX at aF eM;generalize lj:nY l=Cr at aF;cases aF with
 | hY=>
  have aB:l=[]:=by cases l with|nil=>rfl|cons b l=>simp [nY] at lj
  subst aB;refine .same (val := .string ByteArray.empty) (eM _ ?_) (.str _ _ C);rw [run_convert_bytes_string w jX d e none 0 0 a2 dh dA];rfl
 | iA da _ _ _=>
  have aB:l=[]:=by cases l with|nil=>rfl|cons b l=>simp [nY] at lj
  subst aB;exact .same (val := .string ⟨#[]⟩) (eM _ (run_convert_bytes_back w jX d e da 0 [] a2 dh dA (fun j aK=>by simp at aK))) (.str _ _ C)
 | aC g off n cap _ vs _ _ az aB aA hh ca hm aD ct cF=>
  subst lj;have eL:=JK hh;subst eL;rw [JI] at aB;subst aB;refine .same (val := .string ⟨l.toArray⟩) (eM _ ?_) (.str _ _ ba);refine run_convert_bytes_back w jX d e ⟨g,off,none⟩ cap l a2 dh dA (fun j aK=>?_);rw [lo];refine (aA j _ ?_).2;rw [JL];simp [List.getElem?_eq_getElem aK]
theorem RA {o:Oper} {jX d e:TypeId} {x:Operand} {is id aG:bN} {l:List UInt8} (ah:o.op = .convert jX d x) (au:Γ.get? jX=some is) (ax:Γ.get? d=some id) (jY:is.bG = .str) (nx:id.bG = .aC e)
  (he:Γ.get? e=some aG) (oR:aG.bG = .int .u8) (ab:aL env x=some (.str l)) (Fh:l.length≤9223372036854775807):gU P o a w p (.aC 1 (nY l) .bc):=by
 obtain ⟨i1,d1,di,a2,a3,-⟩:=aP.parts au;obtain ⟨i2,d2,hP,dA,nu,-⟩:=aP.parts ax;obtain ⟨i3,d3,c7,dh,e3,-⟩:=aP.parts he;have cb:d1 = .string:=by rw [jY] at a3;cases d1<;>simp [ez] at a3;rfl
 have b1:d2 = .slice e:=by rw [nx] at nu;cases d2<;>simp [ez] at nu;rw [nu]
 have eV:d3 = .int .u8:=by rw [oR] at e3;cases d3<;>simp [ez] at e3;rw [e3]
 subst cb;subst b1;subst eV;have aF:=aI.aL ab;generalize av:a.eval x=dX at aF;cases aF with
 | str mR _ ny=>
 have ca:mR.size=l.length:=by rw [← ny];simp
 have cN:=run_bytes_of_string (P:=P) w jX d e mR a2 dA dh;generalize kC:grownCap w mR.size 0 e=cap at cN;have ns:mR.size≤cap:=by rw [← kC];simp [grownCap,Question.cut]
 have ju:(bytesRow mR cap).toList=(l.map fun b=>Value.int .u8 b.toNat)++t7 (cap-mR.size) (.int .u8 0):=by
  simp [bytesRow,← ny]
 generalize RB:Obj.cells (bytesRow mR cap) e ((bytesRow mR cap).size,(bytesRow mR cap).size+1)=dI at cN;have hle:de w p (w.drew.alloc dI) (p.ej w.heap.size True):=de.trans kX (uf (w:=w.drew) (fun b o h=>aI.wf.lt b o h) dI True);refine ⟨.slice (some ⟨w.heap.size,0,none⟩) mR.size cap,_,_,?_,?_,hle,fun al hG=>⟨?_,?_⟩⟩
 ·unfold execOp
  rw [ah];simp only [av];exact gV cN
 ·refine .aC w.heap.size 0 _ cap 1 (l.map fun b=>Value.int .u8 b.toNat) (nY l) .bc ba (by rw [JI,ca]) ?_ (JJ l) (by simp [Value.cells]) ag ns ba ba
  rw [JL];intro i v JM;refine ⟨.inr ⟨rfl,trivial⟩,?_⟩;have cP:(w.drew.alloc dI).heap[w.heap.size]? = some dI:=ue w.drew dI;rw [← RB] at cP ⊢;simp only [World.cell?,cP,an0,ad4,if_false,ae4];have:(bytesRow mR cap).toList[i]? = some v:=by
   rw [ju,ad6 (ac3.1 JM).1];exact JM
  simpa using this
 ·exact Kept.trans (s₁:=al) (w₁:=w.drew) (p₁:=p) (i0 _) vD (B2 (w:=w.drew) dI True)
 ·exact zn (w:=w.drew) (xP hG) dI True
end
inductive lQ (Γ:cz) (o:Oper) (env:Env):af→Prop
 | a {v:af} (h:pw Γ o env=some v):lQ Γ o env v
 | x {v:af} (h:vW Γ o env=some v):lQ Γ o env v
 | cat {t yt:TypeId} {x y:Operand} {u v:List UInt8} (ah:o.op = .binOp .add t x y yt) (ab:aL env x=some (.str u)) (ay:aL env y=some (.str v)) (aB:u.length+v.length≤9223372036854775807):lQ Γ o env (.str (u++v))
 | toStr {jX d e:TypeId} {x:Operand} {is id aG:bN} {sz:Nat} {l:List UInt8} {own:bM} (ah:o.op = .convert jX d x) (au:Γ.get? jX=some is) (ax:Γ.get? d=some id) (jY:is.bG = .aC e) (nx:id.bG = .str)
   (he:Γ.get? e=some aG) (oR:aG.bG = .int .u8) (ab:aL env x=some (.aC sz (nY l) own)):lQ Γ o env (.str l)
 | Cs {jX d e:TypeId} {x:Operand} {is id aG:bN} {l:List UInt8} (ah:o.op = .convert jX d x) (au:Γ.get? jX=some is) (ax:Γ.get? d=some id) (jY:is.bG = .str) (nx:id.bG = .aC e)
   (he:Γ.get? e=some aG) (oR:aG.bG = .int .u8) (ab:aL env x=some (.str l)) (Fh:l.length≤9223372036854775807):lQ Γ o env (.aC 1 (nY l) .bc)
 | idx {t e:TypeId} {x y:Operand} {it aG:bN} {sz:Nat} {xs:List af} {own:bM} {k:IntKind} {i:Int} (j:Nat) {v:af} {cs:List af} (ah:o.op = .indexAddr t x y)
   (aN:Γ.get? t=some it) (bs:it.bG = .aC e) (bI:Γ.get? e=some aG) (ab:aL env x=some (.aC sz xs own)) (ca:sz=aG.size) (ay:aL env y=some (.int k i)) (eN:i=(j:Int)) (aK:xs[j]? = some v)
   (aA:cellsOf v=some cs):lQ Γ o env (.bA cs 0)
 | zI {t:TypeId} {x y:Operand} {it:bN} {l:List UInt8} {k:IntKind} {i:Int} (j:Nat) {b:UInt8} (ah:o.op = .index t x y)
   (aN:Γ.get? t=some it) (bs:it.bG = .str) (ab:aL env x=some (.str l)) (ay:aL env y=some (.int k i)) (eN:i=(j:Int)) (aK:l[j]? = some b):lQ Γ o env (.int .u8 b.toNat)
 | slice {t e:TypeId} {x:Operand} {gE aQ jt:Option Operand} {it aG:bN} {sz:Nat} {xs:List af} {own cQ:bM} (l h:Nat) (ah:o.op = .slice t x gE aQ jt)
   (aN:Γ.get? t=some it) (bs:it.bG = .aC e) (bI:Γ.get? e=some aG) (ab:aL env x=some (.aC sz xs own)) (ca:xs=[]∨sz=aG.size)
   (hF:(gE=none∧l=0)∨∃ y k,gE=some y∧aL env y=some (.int k (l:Int))) (qv:(aQ=none∧jt=none∧h=xs.length)∨∃ y k,aQ=some y∧aL env y=some (.int k (h:Int)))
   (nv:(jt=none∧cQ = .bc)∨(∃ y k,jt=some y∧aL env y=some (.int k (h:Int))∧cQ = .clip)) (aB:l≤h) (cP:h≤xs.length):lQ Γ o env (.aC sz ((xs.take h).drop l) cQ)
theorem lQ.ok {P:Program} {Γ:cz} (aP:bQ P Γ) {N:Nat} {B:fP} {ro:Option Nat} {env:Env} {s:ao} {a:Act} {w:World} {p:bT} (aI:dz N B ro env s a w p) {o:Oper} {v:af} (h:lQ Γ o env v):gU P o a w p v:=by
 cases h with
 | a h=>exact Ju aP aI h
 | x h=>exact Rh aP aI h
 | cat ah ab ay aB=>exact Rk aI ah ab ay aB
 | toStr ah au ax jY nx he oR ab=>exact Rz aP aI ah au ax jY nx he oR ab
 | Cs ah au ax jY nx he oR ab aB=>exact RA aP aI ah au ax jY nx he oR ab aB
 | idx j ah aN bs bI ab ca ay eN aK aA=>exact Rl aP aI ah aN bs bI ab ca ay eN aK aA
 | zI j ah aN bs ab ay eN aK=>exact Rm aP aI ah aN bs ab ay eN aK
 | slice l h ah aN bs bI ab ca hF qv nv aB cP=>exact Rr aP aI ah aN bs bI ab ca hF qv nv aB cP
theorem lQ.gJ {Γ:cz} {env:Env} {o:Oper} {v:af} (h:lQ Γ o env v):cW.gJ o=true:=by
 cases h with
 | a h=>exact Jv h
 | x h=>exact Ri h
 | cat ah=>simp [cW.gJ,ah]
 | toStr ah=>simp [cW.gJ,ah]
 | Cs ah=>simp [cW.gJ,ah]
 | idx j ah=>simp [cW.gJ,ah]
 | zI j ah=>simp [cW.gJ,ah]
 | slice l h ah=>simp [cW.gJ,ah]
theorem a7.pure {P:Program} {Γ:cz} (aP:bQ P Γ) {N:Nat} {env:Env} {s:ao} {o:Oper} {v:af} (h:lQ Γ o env v):a7 P N o env s (fun x al=>x=v∧al=s) (fun _ _=>False):=
 a7.nn h.gJ fun _ _ _ _ _ aI=>h.ok aP aI
def rG:Nat→List af→Env
 | _,[]=>[]
 | k,v::vs=>(k,v)::rG (k+1) vs
def zJ (Γ:cz) (env:Env) (s:ao):ResultVar→Option af
  | .tmp t=>env.get? t
  | .cell a t=>match env.get? a,Γ.get? t with
    | some (.ptr b o),some i=>match s b with
      | some (.box _ cs)=>hO i cs o
      | _=>none
    | some (.bA cs o),some i=>hO i cs o
    | _,_=>none
def vY (Γ:cz) (env:Env) (s:ao):List ResultVar→Option (List af)
  | []=>some []
  | r::rs=>match zJ Γ env s r with
    | some v=>match vY Γ env s rs with
      | some vs=>some (v::vs)
      | none=>none
    | none=>none
def nZ (Γ:cz) (env:Env) (s:ao) (rs:List ResultVar):Option af:=
 match vY Γ env s rs with
 | some [v]=>some v
 | some vs=>some (.cu vs)
 | none=>none
section
variable {P:Program} {Γ:cz}
theorem RC (aP:bQ P Γ) {N:Nat} {B:fP} {ro:Option Nat} {env:Env} {s:ao} {a:Act} {w w':World} {p:bT} (aI:dz N B ro env s a w p)
  (hw:∀ b o v,w.cell? ⟨b,o,none⟩=some v→w'.cell? ⟨b,o,none⟩=some v) (jr:∀ v x,Rel w p v x→Rel w' p v x) {r:ResultVar} {v:af} (h:zJ Γ env s r=some v) :
  ∃ val,((match r with
   | .tmp t=>pure (a.tmps.getD t undef)
   | .cell b t=>do loadVar t (← asAddr (a.tmps.getD b undef))):Sem Value).run P w' = .ok val w'∧Rel w' p val v:=by
 cases r with
 | tmp t=>exact ⟨_,rfl,jr _ _ (aI.env t v h)⟩
 | cell b t=>
  simp only [zJ] at h;split at h
  ·rename_i aX o i aq aQ
   split at h
   ·rename_i T cs au
    have aF:=aI.env b _ aq;generalize av:a.tmps.getD b undef=zE at aF;cases aF;obtain ⟨vs,U,ae,an⟩:=aI.wf.obj _ _ au;have hh:bF w' p vs.toList cs:=by
     have:∀ us xs,bF w p us xs→bF w' p us xs:=by
      intro us
      induction us with
      | nil=>intro xs h;cases h;exact .nil
      | cons u us a6=>intro xs h;cases h with|cons _ x _ xs ab aN=>exact .cons _ _ _ _ (jr _ _ ab) (a6 _ aN)
     exact this _ _ ae
    obtain ⟨val,cN,eR⟩:=zs aP aQ (b:=aX) (base:=0) (vs:=vs.toList) (w:=w') (fun j u hu=>by
     rw [ae4];refine hw _ _ _ ?_;rw [jJ U];simpa using hu) hh h
    rw [ae4] at cN;exact ⟨val,by simp only [av,asAddr,aa',ac5,g9,cN],eR⟩
   ·cases h
  ·rename_i cs o i aq aQ
   have aF:=jr _ _ (aI.env b _ aq);generalize av:a.tmps.getD b undef=zE at aF;cases aF with
   | bA mR base ui _ vs _ mM aA hh=>
   subst mM;obtain ⟨val,cN,eR⟩:=zs aP aQ (b:=mR) (base:=base) (fun j u hu=>(aA j u hu).2) hh h;exact ⟨val,by simp only [av,asAddr,aa',ac5,g9,cN],eR⟩
  ·cases h
theorem RD (aP:bQ P Γ) {N:Nat} {B:fP} {ro:Option Nat} {env:Env} {s:ao} {a:Act} {w w':World} {p:bT} (aI:dz N B ro env s a w p)
  (hw:∀ b o v,w.cell? ⟨b,o,none⟩=some v→w'.cell? ⟨b,o,none⟩=some v) (jr:∀ v x,Rel w p v x→Rel w' p v x):∀ {rs:List ResultVar} {xs:List af} (_:vY Γ env s rs=some xs),
  ∃ mm,(rs.mapM fun r=>((match r with
   | .tmp t=>pure (a.tmps.getD t undef)
   | .cell b t=>do loadVar t (← asAddr (a.tmps.getD b undef))):Sem Value)).run P w' = .ok mm w'∧bF w' p mm xs:=by
 intro rs
 induction rs with
 | nil=>intro xs h;cases h;exact ⟨[],by simp,.nil⟩
 | cons r rs a6=>
  intro xs h;simp only [vY] at h;split at h
  ·rename_i v av
   split at h
   ·rename_i vs eL
    cases h;obtain ⟨val,U,ae⟩:=RC aP aI hw jr av;obtain ⟨mm,an,bd⟩:=a6 eL;exact ⟨val::mm,by simp only [av3,aa',U,g9,an,ac5],.cons _ _ _ _ ae bd⟩
   ·cases h
  ·cases h
theorem RE (aP:bQ P Γ) {N:Nat} {B:fP} {ro:Option Nat} {env:Env} {s:ao} {a:Act} {w w':World} {p:bT} (aI:dz N B ro env s a w p)
  (hw:∀ b o v,w.cell? ⟨b,o,none⟩=some v→w'.cell? ⟨b,o,none⟩=some v) (jr:∀ v x,Rel w p v x→Rel w' p v x) {fn:Func} {v:af} (h:nZ Γ env s fn.results.toList=some v) :
  ∃ val,(results fn a.tmps).run P w' = .ok val w'∧Rel w' p val v:=by
 unfold nZ at h;have key:∀ xs,vY Γ env s fn.results.toList=some xs→∃ mm,(results fn a.tmps).run P w' = .ok (if h:mm.length=1 then mm[0] else .tuple mm.toArray) w'∧bF w' p mm xs:=by
  intro xs cY;obtain ⟨mm,U,ae⟩:=RD aP aI hw jr cY;refine ⟨mm,?_,ae⟩;unfold results;rw [Array.mapM_eq_mapM_toList];simp only [aa',Sem.run_map];erw [U];simp only [g9,ac5];by_cases aB:mm.length=1
  ·simp [aB]
  ·simp [aB]
 split at h
 ·rename_i fz av
  cases h;obtain ⟨mm,U,ae⟩:=key _ av;cases ae with
  | cons u _ us _ hu aN=>cases aN;exact ⟨u,by simpa using U,hu⟩
 ·rename_i vs cO av
  cases h;obtain ⟨mm,U,ae⟩:=key _ av;have aB:mm.length≠1:=by
   rw [ae.length];intro aB;obtain ⟨x,ab⟩:=List.length_eq_one_iff.1 aB;exact cO x ab
  rw [dif_neg aB] at U;exact ⟨_,U,.cu _ _ qg⟩
 ·cases h
theorem Fi {s:ao} {p:bT}:∀ (cc:List Nat) (w:World),dq w p s→(∀ d∈cc,∃ x,w.heap[d]? = some (.deferred x)) →
    de w p (hq w cc) p∧dq (hq w cc) p s∧(∀ b,b∉cc→(hq w cc).heap[b]? = w.heap[b]?)∧(∀ b o v,w.cell? ⟨b,o,none⟩=some v→(hq w cc).cell? ⟨b,o,none⟩=some v):=by
  intro cc
  induction cc with
  | nil=>intro w cd _;exact ⟨.refl w p,cd,fun _ _=>rfl,fun _ _ _ h=>h⟩
  | cons d cc a6=>
    intro w cd ax;obtain ⟨x,ab⟩:=ax d (i7 ..);have ar:d<w.heap.size:=(i9.1 ab).1
    let w₁:World:={ w with heap:=w.heap.setIfInBounds d (.deferred none) }
    have oP:w₁.heap[d]? = some (.deferred none):=by simp [w₁,ae3,ar]
    have hZ:∀ k,k≠d→w₁.heap[k]? = w.heap[k]? := fun k aD=>by
      show (w.heap.setIfInBounds d (.deferred none))[k]? = _;rw [ae3,d9 (fun e=>aD e.symm)]
    have jH:∀ b o,w₁.cell? ⟨b,o,none⟩=w.cell? ⟨b,o,none⟩:=fun b o=>by
      by_cases e:b=d
      · subst e;simp only [World.cell?,oP,ab]
      · exact xO (hZ b e)
    have hle:de w p w₁ p:=⟨rfl,rfl,rfl,by simp [w₁],fun _ _ h=>h,fun b o _=>jH b o,fun b y ay=>by
      by_cases e:b=d
      · subst e;simp [World.kU,ab] at ay
      · rw [xN (hZ b e)];exact ay⟩
    have RF:dq w₁ p s:=by
      refine ⟨fun b o aq=>?_,fun b o aE=>by simpa [w₁] using cd.lt b o aE⟩;have ah:=cd.obj b o aq;have cO:b≠d:=by
        intro e;subst e;cases o with
        | box t c=>obtain ⟨us,g1,-⟩:=ah;rw [ab] at g1;cases g1
        | row t sz n=>obtain ⟨us,g1,-⟩:=ah;rw [ab] at g1;cases g1
        | map es=>obtain ⟨us,c,g1,-⟩:=ah;rw [ab] at g1;cases g1
        | ll es it l c=>obtain ⟨_,_,_,g1,-⟩:=ah;rw [ab] at g1;cases g1
        | tick m=>obtain ⟨_,_,_,g1⟩:=ah;rw [ab] at g1;cases g1
        | loop r env=>have cF:=ah.1;rw [ab] at cF;cases cF
      have cP:=hZ b cO;cases o with
      | box t c=>obtain ⟨us,g1,g2,g3⟩:=ah;exact ⟨us,cP.trans g1,g2.mono hle,g3⟩
      | row t sz n=>obtain ⟨cur,g1,g2,g3,g4⟩:=ah;exact ⟨cur,cP.trans g1,g2,g3,g4⟩
      | map es=>obtain ⟨cM,c,g1,g2,g3⟩:=ah;exact ⟨cM,c,cP.trans g1,⟨g2.1.mono hle,g2.2.mono hle⟩,g3⟩
      | ll es it l c=>exact ah.qm hle cP (hZ it (ah.zm ab ba))
      | tick m=>obtain ⟨di,a2,a3,g1⟩:=ah;exact ⟨di,a2,a3,cP.trans g1⟩
      | loop r env=>exact ⟨cP.trans ah.1,fun t v h=>(ah.2 t v h).mono hle⟩
    obtain ⟨i1,i2,i3,i4⟩:=a6 w₁ RF (fun c6 cm=>by
      by_cases e:c6=d
      · subst e;exact ⟨none,oP⟩
      · obtain ⟨y,ay⟩:=ax c6 (i5 _ cm);exact ⟨y,(hZ c6 e).trans ay⟩)
    refine ⟨hle.trans i1,i2,fun b aq=>?_,fun b o v av=>i4 b o v ((jH b o).trans av)⟩;have U:b≠d:=fun e=>aq (e ▸ i7 ..)
    have ae:b∉cc:=fun e=>aq (i5 _ e)
    exact (i3 b ae).trans (hZ b U)
def Fin (Γ:cz) (rs:List ResultVar) (R:eB→ao→Prop):b8→Env→ao→Prop
 | .normal,env,s | .ret,env,s=>∃ r r' al,nZ Γ env s rs=some r∧aS r r'∧ao.Sub al s∧R (.ret r') al
 | .panic v,_,s=>∃ fz al,aS v fz∧ao.Sub al s∧R (.panic fz) al
 | .exit _,_,_=>False
theorem RG {w:World} {p:bT}:∀ (k:Nat) (args:List af) (vs pre:List Value),pre.length=k→bF w p vs args→∀ t v,(rG k args).get? t=some v→∃ u,(pre++vs)[t]? = some u∧Rel w p u v:=by
 intro k args
 induction args generalizing k with
 | nil=>intro vs pre _ _ t v h;simp [rG,Env.get?] at h
 | cons x xs a6=>
  intro vs pre aD aF t v h;cases aF with
  | cons u _ us _ hu aN=>
  simp only [rG,Env.get?] at h;split at h
  ·rename_i he
   have:=ac1 he;subst this;cases h;exact ⟨u,by rw [ad5 ag];simp [aD],hu⟩
  ·obtain ⟨jZ,U,ae⟩:=a6 (k+1) us (pre++[u]) (by simp [aD]) aN t v h
   exact ⟨jZ,by simpa using U,ae⟩
theorem Kept.sub {s al eK:ao} {w w':World} {p bk:bT} (h:Kept s al w p w' bk) (au:ao.Sub eK al):Kept s eK w p w' bk :=
 ⟨h.heap,fun b aq az=>au.none (h.kV b aq az),h.lk⟩
theorem hi.xV (aP:bQ P Γ) {f:FuncId} {fn:Func} {c:Code} {args:List af} {s:ao} {R:eB→ao→Prop} (aA:s6 P f) (aZ:P.funcs[f]? = some fn) (aq:fn.body=some c)
  (aW:al5 args.length fn.ntmps=true) (h:ad P fn.ntmps c (Fin Γ fn.results.toList R) (rG 0 args) s):hi P f args s R:=by
 refine ⟨aA,fun w p vs cd eL=>Qi aZ aq fun b rC eZ=>?_⟩;have hle:=al4 aW;have aB:=eL.length;have ca:(vs.toArray++ai9 (fn.ntmps-vs.toArray.size) undef).size=fn.ntmps:=by simp;omega
 have aI:dz fn.ntmps (w.heap.size,[]) b.roundOf (rG 0 args) s { tmps:=vs.toArray++ai9 (fn.ntmps-vs.toArray.size) undef,defers:=[] } w p:=by
  refine ⟨ca,fun t v av=>?_,cd,⟨[],rfl,by simp,by simp⟩,fun l aB=>(by rw [rC] at aB;cases aB),i0 _⟩;obtain ⟨u,hu,aF⟩:=RG 0 args vs [] rfl eL t v av;simp only [d8] at hu;have ar:=(ac3.1 hu).1;have:(vs.toArray++ai9 (fn.ntmps-vs.toArray.size) undef).getD t undef=u:=by
   rw [ad8,aq2 (by simpa using ar)];simp [hu]
  rw [this];exact aF
 refine mc (h b (w.heap.size,[]) _ w p eZ aI) ?_;rintro e da w' ⟨x,eT,al,bk,ab,bq,hR,zK,aD⟩;obtain ⟨cc,s7,eY,fb⟩:=hR.defs;rw [List.append_nil] at s7;obtain ⟨cb,b1,eV,nV⟩:=Fi cc w' hR.wf (fun d ax=>⟨_,(fb d ax).2.1⟩);have bh:Kept s al w p (hq w' cc) bk:=⟨fun aX dO az=>(eV aX (fun hm=>by have:=(fb aX hm).1;omega)).trans (aD.heap aX dO az),aD.kV,aD.lk⟩;have bK:de w p (hq w' cc) bk:=zK.trans cb;have fin:(∃ r r' eK,nZ Γ eT al fn.results.toList=some r∧aS r r'∧ao.Sub eK al∧R (.ret r') eK) →
   ∃ cc,da.defers=marksOf cc∧cc.Nodup∧(∀ d∈cc,w'.heap[d]? = some (.deferred (some [])))∧∃ v,(results fn da.tmps).run P (hq w' cc) = .ok v (hq w' cc)∧vU s w p R (.returned v) (hq w' cc):=by
  rintro ⟨r,r',eK,aF,xW,hN,ed⟩;obtain ⟨val,cN,eR⟩:=RE aP hR nV (fun v x h=>h.mono cb) aF;exact ⟨cc,s7,eY,fun d ax=>(fb d ax).2.1,val,cN,.ret r',eK,bk,xW _ _ _ eR,ed,bK,bh.sub hN,b1.sub hN⟩
 cases ab with
 | normal=>exact fin bq
 | ret=>exact fin bq
 | exit id=>exact bq.elim
 | panic v x dF kW av=>
  obtain ⟨fz,eK,xW,hN,ed⟩:=bq;exact ⟨cc,s7,eY,fun d ax=>(fb d ax).2.1,.panic fz,eK,bk,⟨v,kW,xW _ _ _ (av.mono cb)⟩,ed,bK,bh.sub hN,b1.sub hN⟩
end
def aa (P:Program) (N:Nat) (ops:Array Oper) (l:List Oper) (Q:b8→Env→ao→Prop) (env:Env) (s:ao):Prop:=
 ∀ k,(∀ j x,l[j]? = some x→ops[k+j]? = some x)→fH P N ops (av0 k l.length) Q env s
section
variable {P:Program} {Γ:cz} {N:Nat} {ops:Array Oper} {Q:b8→Env→ao→Prop} {env:Env} {s:ao} {l:List Oper} {o:Oper} {d:Nat}
theorem ad.cB {id:Nat} {l:List Oper} (h:aa P N l.toArray l Q env s):ad P N (.region id l.toArray false) Q env s:=by
 refine ad.region ?_;have:=h 0 ba;rw [List.range_eq_range'];simpa using this
theorem aa.nil (h:Q .normal env s):aa P N ops [] Q env s:=fun _ _=>fH.nil h
theorem aa.cons (h:∀ k,ops[k]? = some o→aa P N ops l Q env s∨True→(∀ j x,l[j]? = some x→ops[k+1+j]? = some x)→fH P N ops (k::av0 (k+1) l.length) Q env s):aa P N ops (o::l) Q env s:=by
 intro k aD;have br:ops[k]? = some o:=aD 0 o C;have aN:∀ j x,l[j]? = some x→ops[k+1+j]? = some x:=fun j x ab=>by have:=aD (j+1) x (by simpa using ab);simpa [al3,an1 1 j] using this
 rw [i8,au0];exact h k br (.inr trivial) aN
theorem aa.op {K X:af→ao→Prop} (aw:guardOf ops env o=some true) (ax:o.dst=some d) (aW:t6 d N=true) (h:a7 P N o env s K X)
  (aD:∀ x al,K x al→aa P N ops l Q ((d,x)::env) al) (ab:∀ x al,X x al→Q (.panic x) env al):aa P N ops (o::l) Q env s:=
 aa.cons fun k br _ aN=>fH.op br aw ax aW h (fun x al bh=>aD x al bh (k+1) aN) ab
theorem aa.vC {K X:af→ao→Prop} (aw:guardOf ops env o=some true) (ax:o.dst=none) (h:a7 P N o env s K X)
  (aD:∀ x al,K x al→aa P N ops l Q env al) (ab:∀ x al,X x al→Q (.panic x) env al):aa P N ops (o::l) Q env s:=
 aa.cons fun k br _ aN=>fH.vC br aw ax h (fun x al bh=>aD x al bh (k+1) aN) ab
theorem aa.skip (aw:guardOf ops env o=some false) (ax:o.dst=some d) (aW:t6 d N=true) (h:aa P N ops l Q ((d,.cu [])::env) s):aa P N ops (o::l) Q env s:=
 aa.cons fun k br _ aN=>fH.skip br aw ax aW (h (k+1) aN)
theorem aa.step (aP:bQ P Γ) {v:af} (aw:guardOf ops env o=some true) (ax:o.dst=some d) (aW:t6 d N=true) (av:pw Γ o env=some v) (h:aa P N ops l Q ((d,v)::env) s) :
  aa P N ops (o::l) Q env s:=
 aa.op aw ax aW (a7.pw aP av) (fun x al ⟨U,ae⟩=>by subst U;subst ae;exact h) (fun _ _ h=>h.elim)
theorem aa.pure (aP:bQ P Γ) {v:af} (aw:guardOf ops env o=some true) (ax:o.dst=some d) (aW:t6 d N=true) (av:lQ Γ o env v) (h:aa P N ops l Q ((d,v)::env) s) :
  aa P N ops (o::l) Q env s:=
 aa.op aw ax aW (a7.pure aP av) (fun x al ⟨U,ae⟩=>by subst U;subst ae;exact h) (fun _ _ h=>h.elim)
theorem aa.iD (aP:bQ P Γ) {v:af} (aw:guardOf ops env o=some true) (ax:o.dst=some d) (aW:t6 d N=true) (av:vW Γ o env=some v) (h:aa P N ops l Q ((d,v)::env) s) :
  aa P N ops (o::l) Q env s:=aa.pure aP aw ax aW (.x av) h
theorem aa.call {f:FuncId} {as:Array Operand} {c0:Array TypeId} {xs:List af} {R:eB→ao→Prop} (aw:guardOf ops env o=some true) (ax:o.dst=some d) (aW:t6 d N=true)
  (b5:o.op = .call { callee := .value (.func f),args:=as,argTypes:=c0 }) (a8:fQ env as.toList=some xs) (h:hi P f xs s R)
  (aD:∀ x al,R (.ret x) al→aa P N ops l Q ((d,x)::env) al) (ab:∀ x al,R (.panic x) al→Q (.panic x) env al):aa P N ops (o::l) Q env s:=
 aa.op aw ax aW (a7.call b5 (fv := .func f [] []) C a8 (hT.fp fZ)) aD ab
theorem aa.JN {f:FuncId} {as:Array Operand} {c0:Array TypeId} {xs:List af} {v:af} (aw:guardOf ops env o=some true) (ax:o.dst=some d) (aW:t6 d N=true)
  (b5:o.op = .call { callee := .value (.func f),args:=as,argTypes:=c0 }) (a8:fQ env as.toList=some xs) (h:hi P f xs s (fun out al=>out = .ret v∧al=s))
  (aD:aa P N ops l Q ((d,v)::env) s):aa P N ops (o::l) Q env s:=
 aa.call aw ax aW b5 a8 h (fun x al ⟨U,ae⟩=>by cases U;subst ae;exact aD) (fun x al ⟨U,_⟩=>by cases U)
theorem aa.Ff {g:Operand} {fv:af} {as:Array Operand} {c0:Array TypeId} {xs:List af} {R:eB→ao→Prop} (aw:guardOf ops env o=some true) (ax:o.dst=some d) (aW:t6 d N=true)
  (b5:o.op = .call { callee := .value g,args:=as,argTypes:=c0 }) (av:aL env g=some fv) (a8:fQ env as.toList=some xs) (h:hT P fv xs s R)
  (aD:∀ x al,R (.ret x) al→aa P N ops l Q ((d,x)::env) al) (ab:∀ x al,R (.panic x) al→Q (.panic x) env al):aa P N ops (o::l) Q env s:=
 aa.op aw ax aW (a7.call b5 av a8 h) aD ab
theorem aa.idx (aP:bQ P Γ) {t e:TypeId} {x y:Operand} {it aG:bN} {sz:Nat} {xs:List af} {own:bM} {k:IntKind} {i:Int} {v:af} {cs:List af} (j:Nat) (aw:guardOf ops env o=some true) (ax:o.dst=some d)
  (aW:t6 d N=true) (ah:o.op = .indexAddr t x y) (aN:Γ.get? t=some it) (bs:it.bG = .aC e) (bI:Γ.get? e=some aG) (ab:aL env x=some (.aC sz xs own)) (ca:sz=aG.size) (ay:aL env y=some (.int k i))
  (eN:i=(j:Int)) (aK:xs[j]? = some v) (aA:cellsOf v=some cs) (h:aa P N ops l Q ((d,.bA cs 0)::env) s):aa P N ops (o::l) Q env s:=
 aa.pure aP aw ax aW (.idx j ah aN bs bI ab ca ay eN aK aA) h
theorem aa.zI (aP:bQ P Γ) {t:TypeId} {x y:Operand} {it:bN} {cs:List UInt8} {k:IntKind} {i:Int} {b:UInt8} (j:Nat) (aw:guardOf ops env o=some true) (ax:o.dst=some d)
  (aW:t6 d N=true) (ah:o.op = .index t x y) (aN:Γ.get? t=some it) (bs:it.bG = .str) (ab:aL env x=some (.str cs)) (ay:aL env y=some (.int k i))
  (eN:i=(j:Int)) (aK:cs[j]? = some b) (h:aa P N ops l Q ((d,.int .u8 b.toNat)::env) s):aa P N ops (o::l) Q env s:=
 aa.pure aP aw ax aW (.zI j ah aN bs ab ay eN aK) h
theorem aa.cat (aP:bQ P Γ) {t yt:TypeId} {x y:Operand} {u v:List UInt8} (aw:guardOf ops env o=some true) (ax:o.dst=some d) (aW:t6 d N=true) (ah:o.op = .binOp .add t x y yt)
  (ab:aL env x=some (.str u)) (ay:aL env y=some (.str v)) (aB:u.length+v.length≤9223372036854775807) (h:aa P N ops l Q ((d,.str (u++v))::env) s):aa P N ops (o::l) Q env s:=
 aa.pure aP aw ax aW (.cat ah ab ay aB) h
theorem aa.toStr (aP:bQ P Γ) {jX zL e:TypeId} {x:Operand} {is id aG:bN} {sz:Nat} {u:List UInt8} {own:bM} (aw:guardOf ops env o=some true) (ax:o.dst=some d) (aW:t6 d N=true) (ah:o.op = .convert jX zL x)
  (au:Γ.get? jX=some is) (Fj:Γ.get? zL=some id) (jY:is.bG = .aC e) (nx:id.bG = .str) (he:Γ.get? e=some aG) (oR:aG.bG = .int .u8) (ab:aL env x=some (.aC sz (nY u) own))
  (h:aa P N ops l Q ((d,.str u)::env) s):aa P N ops (o::l) Q env s:=aa.pure aP aw ax aW (.toStr ah au Fj jY nx he oR ab) h
theorem aa.Cs (aP:bQ P Γ) {jX zL e:TypeId} {x:Operand} {is id aG:bN} {u:List UInt8} (aw:guardOf ops env o=some true) (ax:o.dst=some d) (aW:t6 d N=true) (ah:o.op = .convert jX zL x)
  (au:Γ.get? jX=some is) (Fj:Γ.get? zL=some id) (jY:is.bG = .str) (nx:id.bG = .aC e) (he:Γ.get? e=some aG) (oR:aG.bG = .int .u8) (ab:aL env x=some (.str u)) (Fh:u.length≤9223372036854775807)
  (h:aa P N ops l Q ((d,.aC 1 (nY u) .bc)::env) s):aa P N ops (o::l) Q env s:=aa.pure aP aw ax aW (.Cs ah au Fj jY nx he oR ab Fh) h
theorem aa.slice (aP:bQ P Γ) {t e:TypeId} {x:Operand} {gE aQ jt:Option Operand} {it aG:bN} {sz:Nat} {xs:List af} {own cQ:bM} (a b:Nat) (aw:guardOf ops env o=some true) (ax:o.dst=some d)
  (aW:t6 d N=true) (ah:o.op = .slice t x gE aQ jt)
  (aN:Γ.get? t=some it) (bs:it.bG = .aC e) (bI:Γ.get? e=some aG) (ab:aL env x=some (.aC sz xs own)) (ca:xs=[]∨sz=aG.size)
  (hF:(gE=none∧a=0)∨∃ y k,gE=some y∧aL env y=some (.int k (a:Int))) (qv:(aQ=none∧jt=none∧b=xs.length)∨∃ y k,aQ=some y∧aL env y=some (.int k (b:Int)))
  (nv:(jt=none∧cQ = .bc)∨(∃ y k,jt=some y∧aL env y=some (.int k (b:Int))∧cQ = .clip)) (aB:a≤b) (cP:b≤xs.length) (h:aa P N ops l Q ((d,.aC sz ((xs.take b).drop a) cQ)::env) s):aa P N ops (o::l) Q env s:=
 aa.pure aP aw ax aW (.slice a b ah aN bs bI ab ca hF qv nv aB cP) h
theorem aa.freeze (t b:Nat) {T:TypeId} {cs:List af} (aN:env.get? t=some (.ptr b 0)) (au:s b=some (.box T cs)) (h:aa P N ops l Q ((t,.bA cs 0)::env) (s.del b)):aa P N ops l Q env s:=
 fun k aD=>fH.freeze t b aN au (h k aD)
theorem bY {next:Env→ao→Prop} (h:next env s):b8.andThen next Q .normal env s:=h
end
def qx (ops:Array Oper) (i j:Nat):Prop:=∃ o e,ops[i]? = some o∧e∈o.after∧Region.binds .any e=true∧e.on=j
inductive lq (ops:Array Oper):Nat→Nat→Prop
 | dep {i j:Nat} (h:qx ops i j):lq ops i j
 | trans {i j k:Nat} (h:qx ops i j) (t:lq ops j k):lq ops i k
def vZ (ops:Array Oper) (D:Nat→Bool):Prop:=∀ i j,D i=true→qx ops i j→D j=true
theorem vZ.qy {ops:Array Oper} {D:Nat→Bool} (h:vZ ops D) {i j:Nat} (aQ:D i=true) (a8:lq ops i j):D j=true:=by
 induction a8 with
 | dep ax=>exact h _ _ aQ ax
 | trans ax _ a6=>exact a6 (h _ _ aQ ax)
def ej (D:Nat→Bool) (i:Nat):Nat→Bool:=fun j=>if j=i then true else D j
theorem mS (D:Nat→Bool) (i:Nat):ej D i i=true:=by simp [ej]
theorem j0 (D:Nat→Bool) {i j:Nat} (h:j≠i):ej D i j=D j:=by simp [ej,h]
theorem v7 {D:Nat→Bool} {i j:Nat} (h:D j=true):ej D i j=true:=by unfold ej;split<;>simp_all
def hj (ops:Array Oper) (D:Nat→Bool) (i:Nat):Prop:=i<ops.size∧D i=false∧∀ j,qx ops i j→D j=true
theorem vZ.ej {ops:Array Oper} {D:Nat→Bool} (h:vZ ops D) {i:Nat} (aF:hj ops D i):vZ ops (ej D i):=by
 intro a b a8 ax;by_cases e:a=i
 ·subst e;exact v7 (aF.2.2 b ax)
 ·rw [j0 _ e] at a8;exact v7 (h a b a8 ax)
def looks (ops:Array Oper) (o:Oper):List Tmp:=
  (match o.guard with
   | some (g,_)=>match (ops[g]?).bind (·.dst) with
     | some d=>[d]
     | none=>[]
   | none=>[])++o.op.operands.toList.filterMap fun | .tmp t=>some t|_=>none
def iE (env:Env):List Tmp→Env
  | []=>[]
  | t::gv=>match env.get? t with
    | some v=>(t,v)::iE env gv
    | none=>iE env gv
abbrev b4 (l:List Oper) (env:Env) (o:Oper):Env:=iE env (looks l.toArray o)
abbrev c9 (l:List Oper) (env:Env) (o:Oper):Prop:=guardOf l.toArray (iE env (looks l.toArray o)) o=some true
theorem JO {env:Env} {gv:List Tmp} {t:Tmp} {v:af} (h:(iE env gv).get? t=some v):env.get? t=some v∧t∈gv:=by
 induction gv with
 | nil=>simp [iE,Env.get?] at h
 | cons u gv a6=>
  simp only [iE] at h;split at h
  ·rename_i x ab
   simp only [Env.get?] at h;split at h
   ·rename_i he
    have:=ac1 he;subst this;cases h;exact ⟨ab,i7 ..⟩
   ·exact ⟨(a6 h).1,i5 _ (a6 h).2⟩
  ·exact ⟨(a6 h).1,i5 _ (a6 h).2⟩
def Still (J:ao→Prop) (P:Program) (Γ:cz) (N:Nat) (ops:Array Oper) (o:Oper) (E:Env) (v:af):Prop:=
 (guardOf ops E o=some true∧lQ Γ o E v)∨(guardOf ops E o=some false∧v = .cu []) ∨
  (guardOf ops E o=some true∧∀ s,J s→a7 P N o E s (fun x al=>x=v∧al=s) (fun _ _=>False))
structure uv (ops:Array Oper):Prop where
 uniq:∀ (i j:Nat) (x y:Oper) (d:Tmp),ops[i]? = some x→ops[j]? = some y→x.dst=some d→y.dst=some d→i=j
 apart:∀ (i j:Nat) (x y:Oper) (d:Tmp),i≠j→ops[i]? = some x→ops[j]? = some y→x.dst=some d→d∈looks ops y→lq ops i j∨lq ops j i
 back:∀ i j,qx ops i j→j<i
 own:∀ (i:Nat) (x:Oper) (d:Tmp),ops[i]? = some x→x.dst=some d→d∉looks ops x
inductive oS (P:Program) (Γ:cz) (N:Nat) (ops:Array Oper) (Q:b8→Env→ao→Prop):(ao→Prop)→(Nat→Bool)→Env→ao→Prop
 | congr {J:ao→Prop} {D:Nat→Bool} {env:Env} {s:ao} (e:Env) (he:∀ t,e.get? t=env.get? t) (h:oS P Γ N ops Q J D e s):oS P Γ N ops Q J D env s
 | fin {J:ao→Prop} {D:Nat→Bool} {env:Env} {s:ao} (fb:∀ i,i<ops.size→D i=true) (h:Q .normal env s):oS P Γ N ops Q J D env s
 | still {J:ao→Prop} {D:Nat→Bool} {env:Env} {s:ao} (cD:J s) (i:Nat) (o:Oper) (d:Tmp) (v:af) (aF:hj ops D i) (ah:ops[i]? = some o) (ax:o.dst=some d) (aW:d<N)
   (av:Still J P Γ N ops o (iE env (looks ops o)) v) (h:oS P Γ N ops Q J (ej D i) ((d,v)::env) s):oS P Γ N ops Q J D env s
 | split {J:ao→Prop} {D:Nat→Bool} {env:Env} {s:ao} (K X:Nat→af→ao→Prop) (v8:Nat→af→ao→ao→Prop) (cO:∃ i,i<ops.size∧D i=false)
   (aw:∀ i o,hj ops D i→ops[i]? = some o→guardOf ops (iE env (looks ops o)) o=some true∧a7 P N o (iE env (looks ops o)) s (K i) (X i)∧∀ d,o.dst=some d→d<N)
   (aK:∀ i o,hj ops D i→ops[i]? = some o→∀ x al,K i x al→(v8 i x al=J∧J al)∨∀ j,j<ops.size→D j=true→j≠i→lq ops i j)
   (aD:∀ i o d,hj ops D i→ops[i]? = some o→o.dst=some d→∀ x al,K i x al→oS P Γ N ops Q (v8 i x al) (ej D i) ((d,x)::env) al)
   (lr:∀ i o,hj ops D i→ops[i]? = some o→o.dst=none→∀ x al,K i x al→oS P Γ N ops Q (v8 i x al) (ej D i) env al)
   (ab:∀ i o,hj ops D i→ops[i]? = some o→∀ x al,X i x al→Q (.panic x) [] al):oS P Γ N ops Q J D env s
abbrev bo (J:ao→Prop) (P:Program) (Γ:cz) (N:Nat) (ops:Array Oper) (Q:b8→Env→ao→Prop) (D:Nat→Bool) (env:Env) (s:ao):Prop:=oS P Γ N ops Q J D env s
section
variable {J:ao→Prop} {P:Program} {Γ:cz} {N:Nat} {ops:Array Oper} {Q:b8→Env→ao→Prop} {D:Nat→Bool} {env:Env} {s:ao}
theorem bo.congr (e:Env) (he:∀ t,e.get? t=env.get? t) (h:bo J P Γ N ops Q D e s):bo J P Γ N ops Q D env s:=oS.congr e he h
theorem bo.fin (fb:∀ i,i<ops.size→D i=true) (h:Q .normal env s):bo J P Γ N ops Q D env s:=oS.fin fb h
theorem bo.still (cD:J s) (i:Nat) (o:Oper) (d:Tmp) (v:af) (aF:hj ops D i) (ah:ops[i]? = some o) (ax:o.dst=some d) (aW:d<N)
  (av:Still J P Γ N ops o (iE env (looks ops o)) v) (h:bo J P Γ N ops Q (ej D i) ((d,v)::env) s):bo J P Γ N ops Q D env s:=oS.still cD i o d v aF ah ax aW av h
theorem bo.split (K X:Nat→af→ao→Prop) (cO:∃ i,i<ops.size∧D i=false)
  (aw:∀ i o,hj ops D i→ops[i]? = some o→guardOf ops (iE env (looks ops o)) o=some true∧a7 P N o (iE env (looks ops o)) s (K i) (X i)∧∀ d,o.dst=some d→d<N)
  (aK:∀ i o,hj ops D i→ops[i]? = some o→∀ x al,K i x al→J al∨∀ j,j<ops.size→j≠i→lq ops i j)
  (aD:∀ i o d,hj ops D i→ops[i]? = some o→o.dst=some d→∀ x al,K i x al→bo J P Γ N ops Q (ej D i) ((d,x)::env) al)
  (lr:∀ i o,hj ops D i→ops[i]? = some o→o.dst=none→∀ x al,K i x al→bo J P Γ N ops Q (ej D i) env al)
  (ab:∀ i o,hj ops D i→ops[i]? = some o→∀ x al,X i x al→Q (.panic x) [] al):bo J P Γ N ops Q D env s:=
 oS.split K X (fun _ _ _=>J) cO aw (fun i o U ae x al an=>(aK i o U ae x al an).imp (fun h=>⟨rfl,h⟩) (fun h j bd _ bD=>h j bd bD)) aD lr ab
end
def nz:ao→Prop:=fun _=>True
abbrev bf (P:Program) (Γ:cz) (N:Nat) (ops:Array Oper) (Q:b8→Env→ao→Prop) (D:Nat→Bool) (env:Env) (s:ao):Prop:=bo nz P Γ N ops Q D env s
structure kZ (J:ao→Prop) (P:Program) (Γ:cz) (N:Nat) (B:fP) (ro:Option Nat) (ops:Array Oper) (D L:Nat→Bool) (V:Nat→af) (E:Nat→Env) (env:Env) (s:ao) (a:Act) (w:World) (p:bT):Prop where
 sub:∀ i,L i=true→D i=true
 rH:vZ ops D
 qz:vZ ops L
 st:dz N B ro [] s a w p
 known:∀ t v,env.get? t=some v→(∃ k o,D k=true∧L k=false∧ops[k]? = some o∧o.dst=some t)∨Rel w p (a.tmps.getD t undef) v
 v':∀ i o,D i=true→L i=false→ops[i]? = some o→∃ d,o.dst=some d∧d<N∧env.get? d=some (V i)∧Still J P Γ N ops o (E i) (V i) ∧
  (∀ t x,(E i).get? t=some x→t∈looks ops o∧(∀ k u,ops[k]? = some u→u.dst=some t→lq ops i k→L k=false→x=V k) ∧
   ((∀ k u,ops[k]? = some u→u.dst=some t→lq ops i k→L k=true)→Rel w p (a.tmps.getD t undef) x))
 bound:∀ i,D i=true→i<ops.size
 inv:(∀ i,D i=true→L i=true)∨J s
theorem dz.restrict {N:Nat} {B:fP} {ro:Option Nat} {env:Env} {s:ao} {a:Act} {w:World} {p:bT} (h:dz N B ro env s a w p) (e:Env) (he:∀ t v,e.get? t=some v→Rel w p (a.tmps.getD t undef) v) :
  dz N B ro e s a w p:=⟨h.size,he,h.wf,h.defs,h.round,h.base⟩
section
variable {J:ao→Prop} {P:Program} {Γ:cz} {N:Nat} {ops:Array Oper} {Q:b8→Env→ao→Prop}
theorem kZ.ahead (dJ:uv ops) {B:fP} {ro:Option Nat} {D L:Nat→Bool} {V:Nat→af} {E:Nat→Env} {env:Env} {s:ao} {a:Act} {w:World} {p:bT}
  (h:kZ J P Γ N B ro ops D L V E env s a w p) {i:Nat} {o:Oper} {d:Tmp} {v:af} (aF:hj ops D i) (ah:ops[i]? = some o) (ax:o.dst=some d) (aW:d<N)
  (cD:J s) (av:Still J P Γ N ops o (iE env (looks ops o)) v) :
  kZ J P Γ N B ro ops (ej D i) L (fun j=>if j=i then v else V j) (fun j=>if j=i then iE env (looks ops o) else E j) ((d,v)::env) s a w p:=by
 have RH:L i=false:=by
  cases aB:L i with
  | false=>rfl
  | true=>have:=h.sub i aB;rw [aF.2.1] at this;cases this
 refine ⟨fun j aK=>v7 (h.sub j aK),h.rH.ej aF,h.qz,h.st,fun t x ab=>?_,fun j u aK mT hu=>?_,fun j aK=>?_,.inr cD⟩
 ·simp only [Env.get?] at ab
  split at ab
  ·rename_i he
   have:=ac1 he;subst this;exact .inl ⟨i,o,mS _ _,RH,ah,ax⟩
  ·rcases h.known t x ab with ⟨k,u,U,ae,an,bd⟩|eR
   ·exact .inl ⟨k,u,v7 U,ae,an,bd⟩
   ·exact .inr eR
 ·by_cases e:j=i
  ·subst e
   rw [ah] at hu;cases hu;refine ⟨d,ax,aW,by simp [Env.get?],?_,?_⟩
   ·simpa using av
   ·intro t x ab
    simp only [if_true] at ab;obtain ⟨je,oT⟩:=JO ab;refine ⟨oT,fun k u aD lu h9 oU=>?_,fun gF=>?_⟩
    ·have cO:k≠j:=fun e'=>by
      subst e';rw [ah] at aD;cases aD;rw [ax] at lu;cases lu;exact dJ.own _ _ _ ah ax oT
     rw [d9 cO];have RI:D k=true:=by
      have:=(h.rH.ej aF).qy (mS D j) h9;rwa [j0 _ cO] at this
     obtain ⟨c6,cb,b1,eV,-⟩:=h.v' k u RI oU aD;rw [lu] at cb;cases cb;rw [je] at eV;cases eV;rfl
    ·rcases h.known t x je with ⟨k,u,U,ae,an,bd⟩|eR
     ·have cO:k≠j:=fun e'=>by subst e';rw [aF.2.1] at U;cases U
      rcases dJ.apart k j u o t cO an ah bd oT with h9|h9
      ·have:=h.rH.qy U h9;rw [aF.2.1] at this;cases this
      ·have:=gF k u an bd h9;rw [ae] at this;cases this
     ·exact eR
  ·rw [j0 _ e] at aK
   obtain ⟨c6,cb,b1,eV,nV,s8⟩:=h.v' j u aK mT hu;have nx:d≠c6:=fun e'=>by subst e';exact e (dJ.uniq j i u o d hu ah cb ax)
   refine ⟨c6,cb,b1,?_,?_,?_⟩
   ·simp only [Env.get?,d9 e]
    have:ac' d c6=false:=by
     cases aq:ac' d c6 with
     | false=>rfl
     | true=>exact absurd (ac1 aq) nx
    simp [this,eV]
   ·simpa [e] using nV
   ·intro t x ab
    simp only [d9 e] at ab;obtain ⟨f1,f2,f3⟩:=s8 t x ab;refine ⟨f1,fun k jZ aD lu h9 oU=>?_,f3⟩;have cO:k≠i:=fun e'=>by
     subst e';have:=h.rH.qy aK h9;rw [aF.2.1] at this;cases this
    rw [d9 cO];exact f2 k jZ aD lu h9 oU
 ·by_cases e:j=i
  ·subst e;exact aF.1
  ·rw [j0 _ e] at aK;exact h.bound j aK
theorem kZ.RJ (dJ:uv ops) {B:fP} {ro:Option Nat} {D L:Nat→Bool} {V:Nat→af} {E:Nat→Env} {env:Env} {s:ao} {a:Act} {w w':World} {p bk:bT}
  (h:kZ J P Γ N B ro ops D L V E env s a w p) {i:Nat} {o:Oper} {d:Tmp} {val:Value} (aF:hj ops L i) (fb:D i=true) (ah:ops[i]? = some o) (ax:o.dst=some d)
  (hle:de w p w' bk) (aD:Kept s s w p w' bk) (cd:dq w' bk s) (oQ:Rel w' bk val (V i)):kZ J P Γ N B ro ops D (ej L i) V E env s (a.put (some d) val) w' bk:=by
 obtain ⟨c6,cm,nk,Ct,JP,dH⟩:=h.v' i o fb aF.2.1 ah;rw [ax] at cm;cases cm;have hR:=h.st.step hle aD cd;have zM:=hR.put nk oQ;have kg:∀ t,t≠d→(a.put (some d) val).tmps.getD t undef=a.tmps.getD t undef:=fun t aN=>by
  simp only [Act.put,ad8,ae3,d9 (fun e:d=t=>aN e.symm)]
 have Cu:(a.put (some d) val).tmps.getD d undef=val:=by
  have:d<a.tmps.size:=by rw [h.st.size];exact nk
  simp [Act.put,ad8,ae3,this]
 refine ⟨fun j aK=>?_,h.rH,h.qz.ej aF,zM.restrict [] (by simp [Env.get?]),fun t x ab=>?_,fun j u aK mT hu=>?_,h.bound,h.inv.imp (fun q j aK=>v7 (q j aK)) id⟩
 ·by_cases e:j=i
  ·subst e;exact fb
  ·rw [j0 _ e] at aK;exact h.sub j aK
 ·by_cases e:t=d
  ·subst e
   rw [Ct] at ab;cases ab;exact .inr (by rw [Cu];exact oQ)
  ·rcases h.known t x ab with ⟨k,u,U,ae,an,bd⟩|eR
   ·have cO:k≠i:=fun e'=>by subst e';rw [ah] at an;cases an;rw [ax] at bd;cases bd;exact e C
    exact .inl ⟨k,u,U,by rw [j0 _ cO];exact ae,an,bd⟩
   ·exact .inr (by rw [kg t e];exact eR.mono hle)
 ·have cO:j≠i:=fun e=>by subst e;rw [mS] at mT;cases mT
  rw [j0 _ cO] at mT;obtain ⟨c6,cb,b1,eV,nV,s8⟩:=h.v' j u aK mT hu;refine ⟨c6,cb,b1,eV,nV,fun t x ab=>?_⟩;obtain ⟨f1,f2,f3⟩:=s8 t x ab;refine ⟨f1,fun k jZ eG lu h9 oU=>?_,fun gF=>?_⟩
  ·have s9:k≠i:=fun e=>by subst e;rw [mS] at oU;cases oU
   rw [j0 _ s9] at oU;exact f2 k jZ eG lu h9 oU
  ·by_cases e:t=d
   ·subst e
    rcases dJ.apart i j o u t (Ne.symm cO) ah hu ax f1 with h9|h9
    ·have:=h.qz.ej aF |>.qy (mS L i) h9
     rw [j0 _ cO] at this;rw [mT] at this;cases this
    ·have:=f2 i o ah ax h9 aF.2.1
     subst this;rw [Cu];exact oQ
   ·rw [kg t e]
    refine (f3 fun k jZ eG lu h9=>?_).mono hle;have s9:k≠i:=fun e'=>by subst e';rw [ah] at eG;cases eG;rw [ax] at lu;cases lu;exact e C
    have:=gF k jZ eG lu h9;rwa [j0 _ s9] at this
theorem kZ.ready (dJ:uv ops) {B:fP} {ro:Option Nat} {D L:Nat→Bool} {V:Nat→af} {E:Nat→Env} {env:Env} {s:ao} {a:Act} {w:World} {p:bT}
  (h:kZ J P Γ N B ro ops D L V E env s a w p) {i:Nat} {o:Oper} (aF:hj ops L i) (fb:D i=false) (ah:ops[i]? = some o) :
  hj ops D i∧dz N B ro (iE env (looks ops o)) s a w p:=by
 refine ⟨⟨aF.1,fb,fun j aK=>h.sub j (aF.2.2 j aK)⟩,h.st.restrict _ fun t v av=>?_⟩;obtain ⟨U,ae⟩:=JO av;rcases h.known t v U with ⟨k,u,g1,g2,g3,g4⟩|eR
 ·have cO:k≠i:=fun e=>by subst e;rw [fb] at g1;cases g1
  rcases dJ.apart k i u o t cO g3 ah g4 ae with h9|h9
  ·have:=h.rH.qy g1 h9;rw [fb] at this;cases this
  ·have:=(h.qz.ej aF).qy (mS L i) h9
   rw [j0 _ cO,g2] at this;cases this
 ·exact eR
theorem kZ.both (dJ:uv ops) {B:fP} {ro:Option Nat} {D L:Nat→Bool} {V:Nat→af} {E:Nat→Env} {env:Env} {s al:ao} {a:Act} {w w':World} {p bk:bT}
  (h:kZ J P Γ N B ro ops D L V E env s a w p) {i:Nat} {o:Oper} {val:Value} {x:af} (aF:hj ops L i) (pH:hj ops D i) (ah:ops[i]? = some o) (nk:∀ d,o.dst=some d→d<N)
  (hle:de w p w' bk) (aD:Kept s al w p w' bk) (cd:dq w' bk al) (oQ:Rel w' bk val x) (cD:J al∨∀ j,j<ops.size→D j=true→j≠i→lq ops i j) :
  kZ J P Γ N B ro ops (ej D i) (ej L i) V E (match o.dst with|some d=>(d,x)::env|none=>env) al (a.put o.dst val) w' bk:=by
 have hR:=h.st.step hle aD cd;have kg:∀ t,o.dst≠some t→(a.put o.dst val).tmps.getD t undef=a.tmps.getD t undef:=fun t aN=>by
  cases ax:o.dst with
  | none=>rfl
  | some d=>
   have:d≠t:=fun e=>aN (by rw [ax,e])
   simp only [Act.put,ad8,ae3,d9 this]
 have Cu:∀ d,o.dst=some d→(a.put o.dst val).tmps.getD d undef=val:=fun d ax=>by
  have:d<a.tmps.size:=by rw [h.st.size];exact nk d ax
  simp [ax,Act.put,ad8,ae3,this]
 have zM:dz N B ro [] al (a.put o.dst val) w' bk:=by
  cases ax:o.dst with
  | none=>exact hR
  | some d=>exact (hR.put (nk d ax) oQ).restrict [] (by simp [Env.get?])
 refine ⟨fun j aK=>?_,h.rH.ej pH,h.qz.ej aF,zM,fun t y ay=>?_,fun j u aK mT hu=>?_,fun j aK=>?_,cD.symm.imp (fun q j aK=>?_) id⟩
 ·by_cases e:j=i
  ·subst e;exact mS _ _
  ·rw [j0 _ e] at aK;exact v7 (h.sub j aK)
 ·by_cases e:o.dst=some t
  ·simp only [e,Env.get?,aq',if_true] at ay
   cases ay;exact .inr (by rw [Cu t e];exact oQ)
  ·have c':env.get? t=some y:=by
    cases ax:o.dst with
    | none=>rw [ax] at ay;exact ay
    | some d=>
     rw [ax] at ay e;simp only [Env.get?] at ay;have:ac' d t=false:=by
      cases aq:ac' d t with
      | false=>rfl
      | true=>exact absurd (congrArg some (ac1 aq)) e
     rw [this] at ay;simpa using ay
   rcases h.known t y c' with ⟨k,u,U,ae,an,bd⟩|eR
   ·have cO:k≠i:=fun e'=>by subst e';rw [ah] at an;cases an;exact e bd
    exact .inl ⟨k,u,v7 U,by rw [j0 _ cO];exact ae,an,bd⟩
   ·exact .inr (by rw [kg t e];exact eR.mono hle)
 ·have cO:j≠i:=fun e=>by subst e;rw [mS] at mT;cases mT
  rw [j0 _ cO] at mT aK;obtain ⟨c6,cb,b1,eV,nV,s8⟩:=h.v' j u aK mT hu;have wa:o.dst≠some c6:=fun e=>cO (dJ.uniq j i u o c6 hu ah cb e)
  refine ⟨c6,cb,b1,?_,nV,fun t y ay=>?_⟩
  ·cases ax:o.dst with
   | none=>exact eV
   | some d=>
    simp only [Env.get?];have:ac' d c6=false:=by
     cases aq:ac' d c6 with
     | false=>rfl
     | true=>exact absurd (by rw [ax,ac1 aq]) wa
    rw [this];simpa using eV
  ·obtain ⟨f1,f2,f3⟩:=s8 t y ay
   have JQ:o.dst≠some t:=fun e=>by
    rcases dJ.apart i j o u t (Ne.symm cO) ah hu e f1 with h9|h9
    ·have:=(h.qz.ej aF).qy (mS L i) h9
     rw [j0 _ cO,mT] at this;cases this
    ·have:=h.rH.qy aK h9;rw [pH.2.1] at this;cases this
   refine ⟨f1,fun k jZ eG lu h9 oU=>?_,fun gF=>?_⟩
   ·have s9:k≠i:=fun e=>by subst e;rw [mS] at oU;cases oU
    rw [j0 _ s9] at oU;exact f2 k jZ eG lu h9 oU
   ·rw [kg t JQ]
    refine (f3 fun k jZ eG lu h9=>?_).mono hle;have s9:k≠i:=fun e'=>by subst e';rw [ah] at eG;cases eG;exact JQ lu
    have:=gF k jZ eG lu h9;rwa [j0 _ s9] at this
 ·by_cases e:j=i
  ·subst e;exact aF.1
  ·rw [j0 _ e] at aK;exact h.bound j aK
 ·by_cases e:j=i
  ·subst e;exact mS _ _
  ·rw [j0 _ e] at aK
   exact (h.qz.ej aF).qy (mS L i) (q j (h.bound j aK) aK e)
theorem kZ.RK (dJ:uv ops) {B:fP} {ro:Option Nat} {D L:Nat→Bool} {V:Nat→af} {E:Nat→Env} {env:Env} {s al:ao} {a:Act} {w w':World} {p bk:bT} {v8:ao→Prop}
  (h:kZ J P Γ N B ro ops D L V E env s a w p) {i:Nat} {o:Oper} {val:Value} {x:af} (aF:hj ops L i) (pH:hj ops D i) (ah:ops[i]? = some o) (nk:∀ d,o.dst=some d→d<N)
  (hle:de w p w' bk) (aD:Kept s al w p w' bk) (cd:dq w' bk al) (oQ:Rel w' bk val x) (cD:(v8=J∧J al)∨∀ j,j<ops.size→D j=true→j≠i→lq ops i j) :
  kZ v8 P Γ N B ro ops (ej D i) (ej L i) V E (match o.dst with|some d=>(d,x)::env|none=>env) al (a.put o.dst val) w' bk:=by
 rcases cD with ⟨rfl,cD⟩|gF
 ·exact h.both dJ aF pH ah nk hle aD cd oQ (.inl cD)
 ·have eX:=h.both dJ aF pH ah nk hle aD cd oQ (.inr gF)
  have left:∀ j,ej D i j=true→ej L i j=true:=fun j aK=>by
   by_cases e:j=i
   ·subst e;exact mS _ _
   ·rw [j0 _ e] at aK
    exact (h.qz.ej aF).qy (mS L i) (gF j (h.bound j aK) aK e)
  exact ⟨eX.sub,eX.rH,eX.qz,eX.st,eX.known,fun j u aK mT _=>(by rw [left j aK] at mT;cases mT),eX.bound,.inl left⟩
def jK (listed:Array Bool) (n:Nat):Nat→Bool:=fun i=>decide (i<n)&&listed.getD i true
theorem mem_ready {listed:Array Bool} (xX:∀ i j,qx ops i j→j<i) {i:Nat} (h:i∈Region.ready .any ops listed):hj ops (jK listed ops.size) i:=by
 unfold Region.ready at h;simp only [af6,ah9,f7,ag8] at h;obtain ⟨ar,aB,gF⟩:=h;refine ⟨ar,by simp only [jK,aB,Bool.and_false],fun j ⟨o,e,ah,he,aq,aK⟩=>?_⟩;have aby:j<i:=xX i j ⟨o,e,ah,he,aq,aK⟩;rw [ah] at gF;simp only [al9,ae1,ax3] at gF;have:=gF e he;simp only [aq,ah7,ae9] at this;rw [aK] at this;have sO:j<ops.size:=by omega
 simp only [jK,sO,decide_true,f0];rw [ad8] at this ⊢;cases ab:listed[j]? with
 | none=>rfl
 | some b=>rw [ab] at this;simpa using this
theorem JR {listed:Array Bool} (xX:∀ i j,qx ops i j→j<i) (az:Region.ready .any ops listed=[]) (ca:listed.size=ops.size):∀ i,i<ops.size→jK listed ops.size i=true:=by
 intro i
 induction i using as1 with
 | _ i a6=>
  intro aQ;cases aB:listed.getD i true with
  | true=>simp [jK,aQ,aB]
  | false=>
   have gb:i∈Region.ready .any ops listed:=by
    unfold Region.ready;simp only [af6,ah9,f7,ag8];refine ⟨aQ,aB,?_⟩;have ah:ops[i]? = some ops[i]:=by simp
    rw [ah];simp only [al9,ae1,ax3];intro e he;cases aq:Region.binds .any e with
    | false=>rfl
    | true=>
     simp only [ah7,ae9];have ar:=xX i e.on ⟨_,e,ah,he,aq,rfl⟩;have:=a6 e.on ar ag;have cC:e.on<listed.size:=by omega
     simp only [jK,f7] at this;rw [ad8] at this ⊢;have RL:listed[e.on]? = some listed[e.on]:=by simp [cC]
     rw [RL] at this ⊢;simpa using this.2
   rw [az] at gb;cases gb
theorem Fk {listed:Array Bool} {i:Nat} (aQ:i<ops.size) (ca:listed.size=ops.size):jK (listed.setIfInBounds i true) ops.size=ej (jK listed ops.size) i:=by
 funext j;unfold jK ej;by_cases e:j=i
 ·subst e;simp [aQ,ca]
 ·have e':¬ i=j:=fun h=>e h.symm
  simp only [d9 e,ad8,ae3,d9 e']
theorem RM (aP:bQ P Γ) {B:fP} {ro:Option Nat} {E:Env} {s:ao} {a:Act} {w:World} {p:bT} {o:Oper} {d:Tmp} {v:af} (ax:o.dst=some d) (aI:dz N B ro E s a w p) (cD:J s) (h:Still J P Γ N ops o E v) {R:Ending→World→Prop} {S:Act→World→Prop}
  (I:∀ val w' bk,Rel w' bk val v→de w p w' bk→Kept s s w p w' bk→dq w' bk s→S (a.put (some d) val) w') :
  (if Region.wanted o (yielded ops a.tmps)=true then gJ o=true∧pv P ((execOp a.eval o).run P w) (fun e w'=>match e with
   | .returned v=>S (a.put o.dst v) w'
   | .panicked dF=>R (.panicked dF) w'
   | .outgrown=>False) else S (a.put o.dst undef) w):=by
 rcases h with ⟨aw,av⟩|⟨aw,rfl⟩|⟨aw,av⟩
 ·rw [f9 (vA aI aw)]
  refine ⟨av.gJ,?_⟩;obtain ⟨val,w',bk,cN,aF,hle,aD⟩:=av.ok aP aI;rw [cN];obtain ⟨kv,ik⟩:=aD s aI.wf;rw [ax];exact I val w' bk aF hle kv ik
 ·rw [d9 (by rw [vA aI aw];simp),ax]
  exact I undef w p EN (.refl w p) (.refl s w p) aI.wf
 ·rw [f9 (vA aI aw)]
  refine ⟨(av s cD).1,((av s cD).2 ro B a w p aI).mono ?_⟩;rintro e w' ⟨al,bk,hle,aD,cd,he⟩;cases e with
  | returned val=>
   obtain ⟨x,⟨rfl,rfl⟩,aF⟩:=he;rw [ax];exact I val w' bk aF hle aD cd
  | panicked dF=>obtain ⟨v,x,-,aZ,-⟩:=he;exact aZ.elim
  | outgrown=>exact he
end
section
variable {J:ao→Prop} {P:Program} {Γ:cz} {N:Nat} {ops:Array Oper} {Q:b8→Env→ao→Prop}
def rI (listed:Array Bool) (n:Nat):Nat:=(ae7 n).countP fun i => !jK listed n i
theorem JS {listed:Array Bool} {i:Nat} (aQ:i<ops.size) (ca:listed.size=ops.size) (aB:jK listed ops.size i=false) :
  rI (listed.setIfInBounds i true) ops.size+1=rI listed ops.size:=by
 unfold rI;rw [Fk aQ ca];have key:∀ l:List Nat,l.Nodup→i∈l→l.countP (fun j => !ej (jK listed ops.size) i j)+1=l.countP (fun j => !jK listed ops.size j):=by
  intro l
  induction l with
  | nil=>intro _ h;cases h
  | cons x l a6=>
   intro az hm;have gd:=ap1.1 az;simp only [List.countP_cons];by_cases e:x=i
   ·subst e
    have:l.countP (fun j => !ej (jK listed ops.size) x j)=l.countP (fun j => !jK listed ops.size j):=by
     apply List.countP_congr;intro y ay;have cO:y≠x:=fun e=>gd.1 (e ▸ ay)
     rw [j0 _ cO]
    rw [this,mS,aB];simp
   ·have Cv:i∈l:=by rcases ad1.1 hm with h|h;exact absurd h.symm e;exact h
    have:=a6 gd.2 Cv;rw [j0 _ e];omega
 exact key _ List.nodup_range (ah9.2 aQ)
theorem JT {listed:Array Bool} (h:rI listed ops.size=0):∀ i,i<ops.size→jK listed ops.size i=true:=by
 intro i aQ;unfold rI at h;rw [List.countP_eq_zero] at h;have:=h i (ah9.2 aQ);simpa using this
theorem JU {Q:hb→Act→World→Prop} {i:Nat} {rest:List Nat} {o:Oper} (ah:ops[i]? = some o) (a:Act) (w:World) :
  ja P ops Q (i::rest) a w=(if Region.wanted o (yielded ops a.tmps)=true then gJ o=true∧pv P ((execOp a.eval o).run P w) (fun e w'=>match e with
   | .returned v=>ja P ops Q rest (a.put o.dst v) w'
   | .panicked dF=>Q (.panic dF) a w'
   | .outgrown=>False) else ja P ops Q rest (a.put o.dst undef) w):=by
 simp only [ja,ah];split
 ·exact propext ⟨fun h=>⟨h.1,h.2.mono fun e w' h=>by cases e<;>exact h⟩,fun h=>⟨h.1,h.2.mono fun e w' h=>by cases e<;>exact h⟩⟩
 ·rfl
theorem JV (fuel t:Nat) (listed:Array Bool) :
  (Region.ready .any ops listed=[]∧Region.linearise.go .any ops (fuel+1) t listed []=[]) ∨
  ∃ i∈Region.ready .any ops listed,∃ bH,Region.linearise.go .any ops (fuel+1) t listed []=i::Region.linearise.go .any ops fuel bH (listed.setIfInBounds i true) []:=by
 simp only [Region.linearise.go]
 change (Region.ready .any ops listed=[]∧(match (Region.ready .any ops listed)[t % (Region.ready .any ops listed).length]? with
   | some i=>Region.linearise.go .any ops fuel (t / (Region.ready .any ops listed).length) (listed.setIfInBounds i true) [i]
   | none=>[].reverse)=[])∨∃ i∈Region.ready .any ops listed,∃ bH,(match (Region.ready .any ops listed)[t % (Region.ready .any ops listed).length]? with
   | some i=>Region.linearise.go .any ops fuel (t / (Region.ready .any ops listed).length) (listed.setIfInBounds i true) [i]
   | none=>[].reverse)=i::Region.linearise.go .any ops fuel bH (listed.setIfInBounds i true) []
 cases aQ:(Region.ready .any ops listed)[t % (Region.ready .any ops listed).length]? with
 | none=>
  have RN:Region.ready .any ops listed=[]:=by
   cases aF:Region.ready .any ops listed with
   | nil=>rfl
   | cons x xs=>
    rw [aF] at aQ;have ar:t % (x::xs).length<(x::xs).length:=Nat.mod_lt _ ba;simp at aQ;simp at ar;omega
  exact .inl ⟨RN,rfl⟩
 | some i=>
  refine .inr ⟨i,List.mem_of_getElem? aQ,t / (Region.ready .any ops listed).length,?_⟩;simp only [];rw [linearise_go_acc];rfl
theorem kZ.post {B:fP} {ro:Option Nat} {D L:Nat→Bool} {V:Nat→af} {E:Nat→Env} {env:Env} {s:ao} {a:Act} {w:World} {p:bT}
  (h:kZ J P Γ N B ro ops D L V E env s a w p) (bK:∀ i,i<ops.size→L i=true):dz N B ro env s a w p:=
 h.st.restrict _ fun t v av=>by
  rcases h.known t v av with ⟨k,u,U,ae,an,-⟩|eR
  ·have:=bK k (h.bound k U);rw [ae] at this;cases this
  ·exact eR
theorem bo.sound (aP:bQ P Γ) (dJ:uv ops) {D:Nat→Bool} {env:Env} {s:ao} (h:bo J P Γ N ops Q D env s):∀ (fuel t:Nat) (listed:Array Bool) (B:fP) (ro:Option Nat) (V:Nat→af) (E:Nat→Env) (a:Act) (w:World) (p:bT),
  listed.size=ops.size→rI listed ops.size≤fuel→kZ J P Γ N B ro ops D (jK listed ops.size) V E env s a w p →
  ja P ops (ku N B ro s w p Q) (Region.linearise.go .any ops fuel t listed []) a w:=by
 have pending:∀ {J:ao→Prop} {D:Nat→Bool} {env:Env} {s:ao} (fuel:Nat),
   (∀ (t:Nat) (listed:Array Bool) (B:fP) (ro:Option Nat) (V:Nat→af) (E:Nat→Env) (a:Act) (w:World) (p:bT),listed.size=ops.size→rI listed ops.size≤fuel →
    kZ J P Γ N B ro ops D (jK listed ops.size) V E env s a w p→ja P ops (ku N B ro s w p Q) (Region.linearise.go .any ops fuel t listed []) a w) →
   ∀ (bH:Nat) (listed:Array Bool) (B:fP) (ro:Option Nat) (V:Nat→af) (E:Nat→Env) (a:Act) (w:World) (p:bT) (i:Nat),listed.size=ops.size→rI listed ops.size≤fuel+1 →
    kZ J P Γ N B ro ops D (jK listed ops.size) V E env s a w p→i∈Region.ready .any ops listed→D i=true →
    ja P ops (ku N B ro s w p Q) (i::Region.linearise.go .any ops fuel bH (listed.setIfInBounds i true) []) a w:=by
  intro J D env s fuel a6 bH listed B ro V E a w p i ca rJ h1 aQ fb;have aF:=mem_ready dJ.back aQ;obtain ⟨o,ah⟩:∃ o,ops[i]? = some o:=⟨_,aq7 aF.1⟩;obtain ⟨d,ax,nk,Ct,JP,dH⟩:=h1.v' i _ fb aF.2.1 ah;have aI:dz N B ro (E i) s a w p:=h1.st.restrict _ fun t v av=>by
   obtain ⟨-,-,f3⟩:=dH t v av;exact f3 fun k u aD lu h9=>by
    have:=(h1.qz.ej aF).qy (mS (jK listed ops.size) i) h9;have cO:k≠i:=fun e=>by
     subst e;rw [ah] at aD;cases aD;rw [ax] at lu;cases lu;exact dJ.own _ _ _ ah ax (dH _ _ av).1
    rwa [j0 _ cO] at this
  rw [JU ah];have cD:J s:=h1.inv.elim (fun q=>by have:=q i fb;rw [aF.2.1] at this;cases this) id;refine RM aP ax aI cD JP (R:=fun e w'=>match e with | .panicked dF=>ku N B ro s w p Q (.panic dF) a w'|_=>False) ?_;intro val w' bk eR hle aD cd;have uw:=h1.RJ dJ aF fb ah ax hle aD cd eR;rw [← Fk aF.1 ca] at uw;have RO:=JS aF.1 ca aF.2.1;refine vB (fun _ _ _ (q:ku N B ro s w' bk Q _ _ _)=>q.after hle aD) _ _ _ (a6 bH _ B ro V E _ w' bk (by simpa using ca) ag uw)
 induction h with
 | @congr J D env s e he h a6=>
  intro fuel t listed B ro V E a w p ca rJ h1;refine a6 fuel t listed B ro V E a w p ca rJ ⟨h1.sub,h1.rH,h1.qz,h1.st,fun t v av=>h1.known t v ((he t).symm.trans av),fun i o U ae an=>?_,h1.bound,h1.inv⟩;obtain ⟨d,ek,dj,dT,mO⟩:=h1.v' i o U ae an;exact ⟨d,ek,dj,(he d).trans dT,mO⟩
 | @fin J D env s fb bq=>
  intro fuel
  induction fuel with
  | zero=>
   intro t listed B ro V E a w p ca rJ h1;have gF:=JT (ops:=ops) (listed:=listed) ag;exact .here .normal bq (h1.post gF)
  | succ fuel a6=>
   intro t listed B ro V E a w p ca rJ h1;rcases JV (ops:=ops) fuel t listed with ⟨az,aw⟩|⟨i,aQ,bH,aw⟩
   ·rw [aw]
    exact .here .normal bq (h1.post (JR dJ.back az ca))
   ·rw [aw]
    exact pending fuel a6 bH listed B ro V E a w p i ca rJ h1 aQ (fb i (mem_ready dJ.back aQ).1)
 | @still J D env s cD i o d v aF ah ax aW av h a6=>
  intro fuel t listed B ro V E a w p ca rJ h1;exact a6 fuel t listed B ro _ _ a w p ca rJ (h1.ahead dJ aF ah ax aW cD av)
 | @split J D env s K X v8 cO aw aK aD lr ab RP RQ=>
  intro fuel
  induction fuel with
  | zero=>
   intro t listed B ro V E a w p ca rJ h1;have gF:=JT (ops:=ops) (listed:=listed) ag;obtain ⟨j,aK,Fl⟩:=cO;have:=h1.sub j (gF j aK);rw [Fl] at this;cases this
  | succ fuel a6=>
   intro t listed B ro V E a w p ca rJ h1;rcases JV (ops:=ops) fuel t listed with ⟨az,wb⟩|⟨i,aQ,bH,wb⟩
   ·obtain ⟨j,aK,Fl⟩:=cO
    have:=h1.sub j (JR dJ.back az ca j aK);rw [Fl] at this;cases this
   ·rw [wb]
    cases fb:D i with
    | true=>exact pending fuel a6 bH listed B ro V E a w p i ca rJ h1 aQ fb
    | false=>
     have aF:=mem_ready dJ.back aQ;obtain ⟨o,ah⟩:∃ o,ops[i]? = some o:=⟨_,aq7 aF.1⟩;obtain ⟨pH,aI⟩:=h1.ready dJ aF fb ah;obtain ⟨kj,mn,nk⟩:=aw i _ pH ah;have RO:=JS aF.1 ca aF.2.1;rw [JU ah,f9 (vA aI kj)];refine ⟨mn.1,(mn.2 ro B a w p aI).mono ?_⟩;rintro e w' ⟨al,bk,hle,lM,cd,he⟩;cases e with
     | returned val=>
      obtain ⟨x,bh,eR⟩:=he;have uw:=h1.RK dJ aF pH ah nk hle lM cd eR (aK i _ pH ah x al bh);rw [← Fk aF.1 ca] at uw;refine vB (fun _ _ _ (q:ku N B ro al w' bk Q _ _ _)=>q.after hle lM) _ _ _ ?_;cases ax:o.dst with
      | none=>
       rw [ax] at uw;exact RQ i _ pH ah ax x al bh fuel bH _ B ro V E _ w' bk (by simpa using ca) ag uw
      | some d=>
       rw [ax] at uw;exact RP i _ d pH ah ax x al bh fuel bH _ B ro V E _ w' bk (by simpa using ca) ag uw
     | panicked dF=>
      obtain ⟨v,x,kW,iB,eR⟩:=he;exact ⟨.panic x,[],al,bk,.panic v x _ kW eR,ab i _ pH ah x al iB,h1.st.step hle lM cd,hle,lM⟩
     | outgrown=>exact he
theorem RR (ops:Array Oper):rI (ai9 ops.size false) ops.size≤ops.size:=by
 unfold rI;have:=List.countP_le_length (p:=fun i => !jK (ai9 ops.size false) ops.size i) (l:=ae7 ops.size);simpa using this
theorem ad.draw (aP:bQ P Γ) (hm:P.follows .mixedOrders=true) {id:Nat} (dJ:uv ops) {env:Env} {s:ao} (h:bo J P Γ N ops Q (fun _=>false) env s):ad P N (.region id ops true) Q env s:=by
 intro b B a w p _ aI;refine Qg fun t=>?_
 simp only [Region.schedule,hm,Bool.true_or,if_true];have hR:dz N B b.roundOf env s a w.drew p:=aI.step kX vD (xP aI.wf);have RS:jK (ai9 ops.size false) ops.size=fun _=>false:=by
  funext i;unfold jK;by_cases aQ:i<ops.size
  ·simp [aQ]
  ·simp [aQ]
 have h1:kZ J P Γ N B b.roundOf ops (fun _=>false) (jK (ai9 ops.size false) ops.size) (fun _ => .any) (fun _=>[]) env s a w.drew p:=by
  rw [RS];exact ⟨fun i h=>h,fun i j h=>nQ,fun i j h=>nQ,hR.restrict [] (by simp [Env.get?]),fun t v av => .inr (hR.env t v av),fun i o h=>nQ,fun i h=>nQ,.inl fun i h=>nQ⟩
 have:=bo.sound aP dJ h ops.size t (ai9 ops.size false) B b.roundOf _ _ a w.drew p ba (RR ops) h1;exact vB (fun _ _ _ (q:ku N B b.roundOf s w.drew p Q _ _ _)=>q.after kX vD) _ _ _ this
end
def wc (o:Oper):List Nat:=o.after.toList.filterMap fun e=>if Region.binds .any e then some e.on else none
def qA (l:List Nat) (i:Nat):Nat:=match nth l i with|some x=>x|none=>0
def xY (acc:List Nat):List Nat→Nat
 | []=>0
 | j::we=>(2^j|||qA acc j)|||xY acc we
def wg:List Oper→List Nat→List Nat
  | [],acc=>acc
  | o::r,acc=>match xY acc (wc o) with
    | 0=>wg r (acc++[0])
    | m+1=>wg r (acc++[m+1])
def Cw (ops:Array Oper) (x y:Oper):Bool:=
 (match x.dst with|some d=>(looks ops y).contains d|none=>false)||(match y.dst with|some d=>(looks ops x).contains d|none=>false)
def rK (ops:Array Oper):Bool:=
  let ms:=wg ops.toList []
  (ae7 ops.size).all fun j=>match ops[j]? with
    | none=>false
    | some y=>(wc y).all (fun k=>t6 k j)&&(match y.dst with|some d => !(looks ops y).contains d|none=>true) &&
      (ae7 j).all fun i=>match ops[i]? with
        | none=>false
        | some x=>(match x.dst,y.dst with|some d,some c6 => !ac' d c6|_,_=>true)&&(!Cw ops x y||(qA ms j).testBit i)
theorem Cx {ops:Array Oper} {i j:Nat} {o:Oper} (ah:ops[i]? = some o):j∈wc o↔qx ops i j:=by
 unfold wc qx;simp only [List.mem_filterMap,Array.mem_toList_iff];constructor
 ·rintro ⟨e,he,h⟩
  split at h
  ·cases h;exact ⟨o,e,ah,he,‹_›,rfl⟩
  ·cases h
 ·rintro ⟨o',e,cF,he,aq,rfl⟩
  rw [ah] at cF;cases cF;exact ⟨e,he,by simp [aq]⟩
theorem RT {ops:Array Oper} {acc:List Nat} {k:Nat} (ux:∀ i j,(qA acc i).testBit j=true→lq ops i j):∀ (we:List Nat),(∀ j∈we,qx ops k j)→∀ j,(xY acc we).testBit j=true→lq ops k j:=by
 intro we
 induction we with
 | nil=>intro _ j h;simp [xY] at h
 | cons x we a6=>
  intro ax j h;simp only [xY,aj8,Bool.or_eq_true] at h;rcases h with (h|h)|h
  ·rw [aj0] at h
   have:=of_decide_eq_true h;subst this;exact .dep (ax _ (i7 ..))
  ·exact .trans (ax _ (i7 ..)) (ux _ _ h)
  ·exact a6 (fun y ay=>ax y (i5 _ ay)) j h
theorem JW {ops:Array Oper}:∀ (r:List Oper) (acc:List Nat),(∀ i,r[i]? = ops[acc.length+i]?)→(∀ i j,(qA acc i).testBit j=true→lq ops i j) →
  ∀ i j,(qA (wg r acc) i).testBit j=true→lq ops i j:=by
 intro r
 induction r with
 | nil=>intro acc _ h;exact h
 | cons o r a6=>
  intro acc aF ux;have ah:ops[acc.length]? = some o:=by simpa using (aF 0).symm
  have hm:=RT ux (k:=acc.length) (wc o) (fun j aK=>(Cx ah).1 aK);have key:∀ m,xY acc (wc o)=m→∀ i j,(qA (wg r (acc++[m])) i).testBit j=true→lq ops i j:=by
   intro m xZ;refine a6 (acc++[m]) (fun i=>?_) (fun i j h=>?_)
   ·have:=aF (i+1)
    simp only [am8] at this;rw [this];simp [al3,an1 1 i]
   ·unfold qA at h
    rw [xQ] at h;by_cases aQ:i<acc.length
    ·rw [ad6 aQ] at h
     exact ux i j (by unfold qA;rw [xQ];exact h)
    ·rw [ad5 ag] at h
     by_cases he:i=acc.length
     ·subst he
      simp at h;rw [← xZ] at h;exact hm j h
     ·have:i-acc.length≠0:=by omega
      cases ab:i-acc.length with
      | zero=>omega
      | succ n=>rw [ab] at h;simp at h
  simp only [wg];split
  ·rename_i br;exact key _ br
  ·rename_i m br;exact key _ br
theorem Fm {ops:Array Oper} (h:rK ops=true):uv ops:=by
 unfold rK at h;simp only [af3,ah9] at h;have im:=JW (ops:=ops) ops.toList [] ba (by intro i j h;simp [qA,nth] at h);have one:∀ j y,ops[j]? = some y→(∀ k,qx ops j k→k<j)∧(∀ d,y.dst=some d→d∉looks ops y) ∧
   (∀ i x,i<j→ops[i]? = some x→(∀ d,x.dst=some d→y.dst≠some d)∧(Cw ops x y=true→lq ops j i)):=by
  intro j y ay;have aK:j<ops.size:=(i9.1 ay).1;have:=h j aK;simp only [ay,f7,af3,ah9] at this;obtain ⟨⟨U,ae⟩,an⟩:=this;refine ⟨fun k aD=>?_,fun d ax=>?_,fun i x aQ ab=>?_⟩
  ·have:=U k ((Cx ay).2 aD)
   simpa [ak8] using this
  ·rw [ax] at ae;simpa using ae
  ·have:=an i aQ
   simp only [ab,f7] at this;obtain ⟨g1,g2⟩:=this;refine ⟨fun d ax cm=>?_,fun aA=>?_⟩
   ·rw [ax,cm] at g1;simp at g1
   ·rw [aA] at g2
    exact im j i (by simpa using g2)
 refine ⟨fun i j x y d ab ay zN JX=>?_,fun i j x y d cO ab ay zN aB=>?_,fun i j ax=>?_,fun i x d ab ax=>(one i x ab).2.1 d ax⟩
 ·rcases ar7 i j with ar|he|py
  ·exact absurd JX (((one j y ay).2.2 i x ar ab).1 d zN)
  ·exact he
  ·exact absurd zN (((one i x ab).2.2 j y py ay).1 d JX)
 ·rcases ar7 i j with ar|he|py
  ·exact .inr (((one j y ay).2.2 i x ar ab).2 (by simp [Cw,zN,aB]))
  ·exact absurd he cO
  ·exact .inl (((one i x ab).2.2 j y py ay).2 (by simp [Cw,zN,aB]))
 ·obtain ⟨o,e,ah,-⟩:=id ax
  exact (one i o ah).1 j ax
def wh (Γ:cz) (N:Nat) (ops:Array Oper) (E:Env) (o:Oper):Option (Nat×af):=
  match o.dst with
  | none=>none
  | some d=>match t6 d N with
    | false=>none
    | true=>match guardOf ops E o with
      | some true=>match pw Γ o E with
        | some v=>some (d,v)
        | none=>none
      | some false=>some (d,.cu [])
      | none=>none
def zO (Γ:cz) (N:Nat) (ops:Array Oper):List Oper→Env→List Oper×Env
  | [],env=>([],env)
  | o::l,env=>match wh Γ N ops env o with
    | some (d,v)=>zO Γ N ops l ((d,v)::env)
    | none=>(o::l,env)
theorem Cy {J:ao→Prop} {P:Program} {Γ:cz} {N:Nat} {ops:Array Oper} {E:Env} {o:Oper} {d:Nat} {v:af} (h:wh Γ N ops E o=some (d,v)):o.dst=some d∧d<N∧Still J P Γ N ops o E v:=by
 unfold wh at h;split at h
 ·cases h
 ·rename_i c6 ax
  split at h
  ·cases h
  ·rename_i aW
   split at h
   ·rename_i aw
    split at h
    ·rename_i fz av;cases h;exact ⟨ax,by simpa [ak8] using aW,.inl ⟨aw,.a av⟩⟩
    ·cases h
   ·rename_i aw;cases h;exact ⟨ax,by simpa [ak8] using aW,.inr (.inl ⟨aw,rfl⟩)⟩
   ·cases h
section
variable {P:Program} {Γ:cz} {N:Nat} {ops:Array Oper} {Q:b8→Env→ao→Prop} {env:Env} {s:ao}
theorem aa.run (aP:bQ P Γ) {l lv:List Oper} {eT:Env} (h:zO Γ N ops l env=(lv,eT)) (aD:aa P N ops lv Q eT s):aa P N ops l Q env s:=by
 induction l generalizing env with
 | nil=>simp only [zO,Prod.mk.injEq] at h;obtain ⟨rfl,rfl⟩:=h;exact aD
 | cons o l a6=>
  simp only [zO] at h;split at h
  ·rename_i d v aN
   obtain ⟨ax,aW,au⟩:=Cy (J:=nz) (P:=P) aN;have pI:t6 d N=true:=by simpa [ak8] using aW
   rcases au with ⟨aw,av⟩|⟨aw,rfl⟩|⟨aw,av⟩
   ·exact aa.pure aP aw ax pI av (a6 h)
   ·exact aa.skip aw ax pI (a6 h)
   ·exact aa.op aw ax pI (av s trivial) (fun x al ⟨U,ae⟩=>by subst U;subst ae;exact a6 h) (fun _ _ h=>h.elim)
  ·simp only [Prod.mk.injEq] at h;obtain ⟨rfl,rfl⟩:=h;exact aD
theorem aa.Cz {l:List Oper} (t:Nat) {v fz:af} (av:env.get? t=some v) (he:v=fz) (h:aa P N ops l Q ((t,fz)::env) s):aa P N ops l Q env s:=by
 subst he;intro k aD ro B a w p aI
 exact h k aD ro B a w p ⟨aI.size,fun u x ab=>by
  simp only [Env.get?] at ab
  split at ab
  ·rename_i aq;have:=ac1 aq;subst this;cases ab;exact aI.env _ _ av
  ·exact aI.env u x ab,aI.wf,aI.defs,aI.round,aI.base⟩
theorem aa.ds {l:List Oper} (t:Nat) {b:Bool} (av:env.get? t=some (.bool b)) (he:b=true) (h:aa P N ops l Q ((t,.bool true)::env) s):aa P N ops l Q env s:=aa.Cz t av (congrArg af.bool he) h
theorem aa.c2 {l:List Oper} (t:Nat) {b:Bool} (av:env.get? t=some (.bool b)) (he:b=false) (h:aa P N ops l Q ((t,.bool false)::env) s):aa P N ops l Q env s:=aa.Cz t av (congrArg af.bool he) h
theorem aa.sub {l:List Oper} (e:Env) (au:Env.Sub e env) (h:aa P N ops l Q e s):aa P N ops l Q env s:=
 fun k aD ro B a w p aI=>h k aD ro B a w p (aI.sub au)
theorem aa.drop {l:List Oper} (al:ao) (au:ao.Sub al s) (h:aa P N ops l Q env al):aa P N ops l Q env s:=
 fun k aD ro B a w p aI=>vB (fun _ _ _ (q:ku N B ro al w p Q _ _ _)=>let ⟨x,eT,eK,bk,U,ae,an,bd,bD⟩:=q;⟨x,eT,eK,bk,U,ae,an,bd,bD.xM au⟩) _ _ _ (h k aD ro B a w p (aI.EK au))
end
def bX (m:Nat):Nat→Bool:=fun i=>m.testBit i
theorem oV (m i:Nat):ej (bX m) i=bX (m|||2^i):=by
 funext j;unfold ej bX;rw [aj8,aj0];by_cases e:j=i
 ·subst e;simp
 ·have e':¬ i=j:=fun h=>e h.symm
  simp [e,e']
def iF (ops:Array Oper) (m i:Nat):Bool:=match ops[i]? with
 | none=>false
 | some o => !(m.testBit i)&&(wc o).all fun j=>m.testBit j
theorem s' {ops:Array Oper} {m i:Nat}:iF ops m i=true↔hj ops (bX m) i:=by
 unfold iF hj bX;constructor
 ·intro h
  split at h
  ·cases h
  ·rename_i o ah
   simp only [f7,ag8,af3] at h;exact ⟨(i9.1 ah).1,h.1,fun j aK=>h.2 j ((Cx ah).2 aK)⟩
 ·rintro ⟨U,ae,an⟩
  have ah:ops[i]? = some ops[i]:=aq7 U;rw [ah];simp only [ae,Bool.not_false,f0,af3];exact fun j aK=>an j ((Cx ah).1 aK)
def eI (ops:Array Oper) (m:Nat):List Nat→List Nat
  | []=>[]
  | i::is=>match iF ops m i with
    | true=>i::eI ops m is
    | false=>eI ops m is
theorem zP {ops:Array Oper} {m i:Nat} {l:List Nat} (h:hj ops (bX m) i) (aQ:i∈l):i∈eI ops m l:=by
 induction l with
 | nil=>cases aQ
 | cons j l a6=>
  simp only [eI];rcases ad1.1 aQ with rfl|aQ
  ·rw [s'.2 h];exact i7 ..
  ·split
   ·exact i5 _ (a6 aQ)
   ·exact a6 aQ
def qB (Γ:cz) (N:Nat) (ops:Array Oper):List Nat→Nat→Env→Nat×Env
  | [],m,env=>(m,env)
  | i::is,m,env=>match ops[i]? with
    | none=>qB Γ N ops is m env
    | some o=>match iF ops m i with
      | false=>qB Γ N ops is m env
      | true=>match wh Γ N ops (iE env (looks ops o)) o with
        | some (d,v)=>match m|||2^i with
          | 0=>qB Γ N ops is 0 ((d,v)::env)
          | k+1=>qB Γ N ops is (k+1) ((d,v)::env)
        | none=>qB Γ N ops is m env
def idxs:Nat→List Oper→List Nat
 | _,[]=>[]
 | k,_::l=>k::idxs (k+1) l
theorem x0 (k:Nat) (l:List Oper):idxs k l=av0 k l.length:=by
 induction l generalizing k with
 | nil=>rfl
 | cons o l a6=>simp [idxs,a6,au0]
section
variable {J:ao→Prop} {P:Program} {Γ:cz} {N:Nat} {l:List Oper} {Q:b8→Env→ao→Prop} {env:Env} {s:ao} {m:Nat}
theorem bo.runs (cD:J s) {is:List Nat} {iQ:Nat} {eT:Env} (h:qB Γ N l.toArray is m env=(iQ,eT)) (aD:bo J P Γ N l.toArray Q (bX iQ) eT s):bo J P Γ N l.toArray Q (bX m) env s:=by
 induction is generalizing m env with
 | nil=>simp only [qB,Prod.mk.injEq] at h;obtain ⟨rfl,rfl⟩:=h;exact aD
 | cons i is a6=>
  simp only [qB] at h;split at h
  ·exact a6 h
  ·rename_i o ah
   split at h
   ·exact a6 h
   ·rename_i aF
    split at h
    ·rename_i d v aN
     obtain ⟨ax,aW,au⟩:=Cy aN;refine bo.still cD i o d v (s'.1 aF) ah ax aW au ?_;rw [oV];split at h
     ·rename_i br;rw [br];exact a6 h
     ·rename_i k br;rw [br];exact a6 h
    ·exact a6 h
theorem bf.runs {is:List Nat} {iQ:Nat} {eT:Env} (h:qB Γ N l.toArray is m env=(iQ,eT)) (aD:bf P Γ N l.toArray Q (bX iQ) eT s):bf P Γ N l.toArray Q (bX m) env s:=bo.runs trivial h aD
theorem bo.run (cD:J s) {iQ:Nat} {eT:Env} (h:qB Γ N l.toArray (idxs 0 l) m env=(iQ,eT)) (aD:bo J P Γ N l.toArray Q (bX iQ) eT s):bo J P Γ N l.toArray Q (bX m) env s:=bo.runs cD h aD
theorem bf.run {iQ:Nat} {eT:Env} (h:qB Γ N l.toArray (idxs 0 l) m env=(iQ,eT)) (aD:bf P Γ N l.toArray Q (bX iQ) eT s):bf P Γ N l.toArray Q (bX m) env s:=bo.runs trivial h aD
theorem bf.done (fb:(idxs 0 l).all (fun i=>m.testBit i)=true) (h:Q .normal env s):bo J P Γ N l.toArray Q (bX m) env s:=by
 refine bo.fin (fun i aQ=>?_) h;simp only [af3] at fb;refine fb i ?_;rw [x0,an9];have:i<l.length:=by simpa using aQ
 omega
def kE (ops:Array Oper) (i:Nat):Bool:=(ae7 ops.size).all fun j=>ac' j i||(qA (wg ops.toList []) i).testBit j
theorem CA {ops:Array Oper} {i:Nat} (h:kE ops i=true):∀ j,j<ops.size→j≠i→lq ops i j:=by
 intro j aK cO;simp only [kE,af3] at h;have:=h j (ah9.2 aK);have aq:ac' j i=false:=by
  cases aq:ac' j i with
  | false=>rfl
  | true=>exact absurd (ac1 aq) cO
 rw [aq,ae9] at this;refine JW ops.toList [] (fun i=>by simp) (fun i j h=>?_) i j this;have:qA [] i=0:=by cases i<;>rfl
 rw [this] at h;simp at h
theorem bo.one {i:Nat} {o:Oper} {d:Nat} {K X:af→ao→Prop} (aF:eI l.toArray m (idxs 0 l)=[i]) (ah:l.toArray[i]? = some o) (ax:o.dst=some d) (aW:t6 d N=true)
  (aw:c9 l env o) (h:a7 P N o (b4 l env o) s K X)
  (aK:∀ x al,K x al→J al∨kE l.toArray i=true) (aD:∀ x al,K x al→bo J P Γ N l.toArray Q (bX (m|||2^i)) ((d,x)::env) al) (ab:∀ x al,X x al→Q (.panic x) [] al):bo J P Γ N l.toArray Q (bX m) env s:=by
 have fq:∀ j,hj l.toArray (bX m) j→j=i:=fun j aK=>by
  have:=zP aK (l:=idxs 0 l) (by rw [x0,an9];have:=aK.1;simp at this;omega);rw [aF] at this;simpa using this
 have jd:hj l.toArray (bX m) i:=by
  have gb:i∈eI l.toArray m (idxs 0 l):=by rw [aF];exact i7 ..
  have:∀ is,i∈eI l.toArray m is→iF l.toArray m i=true:=by
   intro is
   induction is with
   | nil=>intro h;cases h
   | cons j is a6=>
    intro h;simp only [eI] at h;split at h
    ·rename_i aq
     rcases ad1.1 h with rfl|h
     ·exact aq
     ·exact a6 h
    ·exact a6 h
  exact s'.1 (this _ gb)
 refine bo.split (fun _=>K) (fun _=>X) ⟨i,jd.1,jd.2.1⟩ (fun j o' aK cF=>?_) (fun j o' wi cF x al bh=>by have:=fq j wi;subst this;exact (aK x al bh).imp id CA) (fun j o' c6 aK cF cm x al bh=>?_) (fun j o' aK cF cm x al bh=>?_) (fun j o' aK cF x al iB=>ab x al iB)
 ·have:=fq j aK;subst this
  rw [ah] at cF;cases cF;exact ⟨aw,h,fun c6 cm=>by rw [ax] at cm;cases cm;simpa [ak8] using aW⟩
 ·have:=fq j aK;subst this
  rw [ah] at cF;cases cF;rw [ax] at cm;cases cm;rw [oV];exact aD x al bh
 ·have:=fq j aK;subst this
  rw [ah] at cF;cases cF;rw [ax] at cm;cases cm
theorem bo.x1 {i:Nat} {o:Oper} {K X:af→ao→Prop} (aF:eI l.toArray m (idxs 0 l)=[i]) (ah:l.toArray[i]? = some o) (ax:o.dst=none)
  (aw:c9 l env o) (h:a7 P N o (b4 l env o) s K X)
  (aK:∀ x al,K x al→J al∨kE l.toArray i=true) (aD:∀ x al,K x al→bo J P Γ N l.toArray Q (bX (m|||2^i)) env al) (ab:∀ x al,X x al→Q (.panic x) [] al):bo J P Γ N l.toArray Q (bX m) env s:=by
 have fq:∀ j,hj l.toArray (bX m) j→j=i:=fun j aK=>by
  have:=zP aK (l:=idxs 0 l) (by rw [x0,an9];have:=aK.1;simp at this;omega);rw [aF] at this;simpa using this
 have ar:i<l.toArray.size:=(i9.1 ah).1;have oW:bX m i=false:=by
  cases aq:bX m i with
  | false=>rfl
  | true=>
   have gb:i∈eI l.toArray m (idxs 0 l):=by rw [aF];exact i7 ..
   have:∀ is,i∈eI l.toArray m is→iF l.toArray m i=true:=by
    intro is
    induction is with
    | nil=>intro h;cases h
    | cons j is a6=>
     intro h;simp only [eI] at h;split at h
     ·rename_i aq
      rcases ad1.1 h with rfl|h
      ·exact aq
      ·exact a6 h
     ·exact a6 h
   have:=(s'.1 (this _ gb)).2.1;rw [aq] at this;cases this
 refine bo.split (fun _=>K) (fun _=>X) ⟨i,ar,oW⟩ (fun j o' aK cF=>?_) (fun j o' wi cF x al bh=>by have:=fq j wi;subst this;exact (aK x al bh).imp id CA) (fun j o' c6 aK cF cm x al bh=>?_) (fun j o' aK cF cm x al bh=>?_) (fun j o' aK cF x al iB=>ab x al iB)
 ·have:=fq j aK;subst this
  rw [ah] at cF;cases cF;exact ⟨aw,h,fun c6 cm=>by rw [ax] at cm;cases cm⟩
 ·have:=fq j aK;subst this
  rw [ah] at cF;cases cF;rw [ax] at cm;cases cm
 ·have:=fq j aK;subst this
  rw [ah] at cF;cases cF;rw [oV];exact aD x al bh
theorem bf.one {i:Nat} {o:Oper} {d:Nat} {K X:af→ao→Prop} (aF:eI l.toArray m (idxs 0 l)=[i]) (ah:l.toArray[i]? = some o) (ax:o.dst=some d) (aW:t6 d N=true)
  (aw:c9 l env o) (h:a7 P N o (b4 l env o) s K X)
  (aD:∀ x al,K x al→bf P Γ N l.toArray Q (bX (m|||2^i)) ((d,x)::env) al) (ab:∀ x al,X x al→Q (.panic x) [] al):bf P Γ N l.toArray Q (bX m) env s:=
 bo.one aF ah ax aW aw h (fun _ _ _ => .inl trivial) aD ab
theorem bf.x1 {i:Nat} {o:Oper} {K X:af→ao→Prop} (aF:eI l.toArray m (idxs 0 l)=[i]) (ah:l.toArray[i]? = some o) (ax:o.dst=none)
  (aw:c9 l env o) (h:a7 P N o (b4 l env o) s K X)
  (aD:∀ x al,K x al→bf P Γ N l.toArray Q (bX (m|||2^i)) env al) (ab:∀ x al,X x al→Q (.panic x) [] al):bf P Γ N l.toArray Q (bX m) env s:=
 bo.x1 aF ah ax aw h (fun _ _ _ => .inl trivial) aD ab
theorem bf.congr {ops:Array Oper} {D:Nat→Bool} (e:Env) (he:∀ t,e.get? t=env.get? t) (h:bf P Γ N ops Q D e s):bf P Γ N ops Q D env s:=bo.congr e he h
theorem ad.qC (J:ao→Prop) (aP:bQ P Γ) (hm:P.follows .mixedOrders=true) {id:Nat} (dJ:rK l.toArray=true) (h:bo J P Γ N l.toArray Q (bX 0) env s):ad P N (.region id l.toArray true) Q env s:=by
 refine ad.draw (J:=J) aP hm (Fm dJ) ?_;have:bX 0=fun _=>false:=by funext i;simp [bX]
 rw [this] at h;exact h
theorem ad.qD (aP:bQ P Γ) (hm:P.follows .mixedOrders=true) {id:Nat} (dJ:rK l.toArray=true) (h:bf P Γ N l.toArray Q (bX 0) env s):ad P N (.region id l.toArray true) Q env s:=by
 refine ad.draw (J:=nz) aP hm (Fm dJ) ?_;have:bX 0=fun _=>false:=by funext i;simp [bX]
 rw [this] at h;exact h
end
end Go.cW
