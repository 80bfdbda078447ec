import Derived.AtR
import Derived.Defers
import Derived.Laws.Sem
import Derived.Laws.World
import Derived.Laws.NewBlocks
import Derived.Laws.Cells
import Derived.Laws.Strings
import Derived.Laws.Tables
import Derived.Laws.Small
import Derived.LaidEql
import Derived.Laws.Append
import Derived.Laws.CopyRow
import Derived.Laws.Slices
import Derived.Laws.IdiomStrings
import Derived.Orders
set_option linter.unusedVariables false
set_option linter.unusedSimpArgs false
universe u
open Array renaming all_eq_true'→aA4,ext'→ap',foldl_toList→aw0,getD_eq_getD_getElem?→ag4,getElem?_append_left→at6,getElem?_eq_getElem→at',getElem?_eq_some_iff→t8,getElem?_push→az6,getElem?_setIfInBounds→ag9,length_toList→ae9,replicate→al3,toList_extract→av4,toList_push→as9
open Bool renaming and_eq_true→f9,false_eq_true→af6,false_or→ah1,not_eq_true'→ai0,not_true→aj',true_and→f5
open Int renaming ofNat→aq4
open List renaming all_eq_true→ag6,append_assoc→af9,drop_nil→at5,drop_succ_cons→ao3,eq_nil_of_length_eq_zero→ai6,flatMap_cons→aj9,flatMap→aD5,foldl_cons→ah4,getElem?_append_left→af',getElem?_append_right→af0,getElem?_cons_succ→ak0,getElem?_eq_some_iff→t7,getElem?_map→af3,getElem?_take→ai2,length_append→f8,length_cons→i0,length_drop→ai5,length_take→ae8,mapM_cons→ay1,map_cons→ae2,map_nil→ah2,map_toArray→ar7,mem_append→ae4,mem_cons_of_mem→i6,mem_cons_self→i8,mem_cons→af1,mem_filter→ae3,mem_map→ag0,mem_of_mem_take→ap0,mem_range'_1→ar1,mem_range→aj8,mem_singleton→t6,nil_append→d8,nodup_cons→as3,range'_succ→ax0,range'→ay0,range→ah0,replicate→ab',size_toArray→an3,take_left→av7,take_nil→aC7,zipIdx_cons→aw7
open Nat renaming add_assoc→an9,add_comm→aq1,add_mul→ak5,add_zero→ao',beq_refl→au2,beq→af2,ble→ao5,blt_eq→an4,blt→aa',eq_of_beq_eq_true→ae0,le_of_ble_eq_true→ao4,le_refl→g9,le_trans→am',lt_of_lt_of_le→ak8,lt_trichotomy→au9,mul_le_mul_right→am8,strongRecOn→av2,testBit_or→al5,testBit_two_pow→aj7,zero_add→af8
open Option renaming bind_some→aj4,getD_some→ae',isSome_none→au0,map_eq_some_iff→ax7,map_some→ao2,some→al'
open Go.Result renaming andThen_ok→i5
open Go.Sem renaming runT_eq→au',run_bind→ac',run_pure→ae5,run→aw5
namespace Go.Proofs.YtnafpeohfbglmaaGreat
theorem d9 {c:Prop} {h:Decidable c} (k:¬c) {α:Sort _} {t e:α}:(if c then t else e)=e:=if_neg k
theorem g6 {c:Prop} {h:Decidable c} (k:c) {α:Sort _} {t e:α}:(if c then t else e)=t:=if_pos k
theorem g7 {p:Prop} [h:Decidable p] (k:p):decide p=true:=decide_eq_true k
theorem H1 {p:Prop} [h:Decidable p] (k:¬p):decide p=false:=decide_eq_false k
theorem ag7 {α:Sort _} {h:Decidable True} (t e:α):(if True then t else e)=t:=if_true t e
theorem ah9 {α:Sort _} {h:Decidable False} (t e:α):(if False then t else e)=e:=if_false t e
theorem ae7 {α:Sort _} {β:Sort _} {a b:α} (f:α→β) (h:a=b):f a=f b:=congrArg f h
theorem am7 {α:Type _} [BEq α] [LawfulBEq α] {a b:α}:(a==b)=true↔a=b:=beq_iff_eq
theorem ai9 {p:Prop} [h:Decidable p] (k:decide p=true):p:=of_decide_eq_true k
theorem i7 {p:Prop} [h:Decidable p]:(decide p=true)=p:=decide_eq_true_eq
theorem C {α:Sort u} {a:α}:a=a:=Eq.refl a
theorem x1 {p:Prop} (h:p:=by rw [List.length_take,cj];omega):p:=h
theorem ui {p:Prop} (h:p:=by rw [List.length_take];omega):p:=h
theorem qu {p:Prop} (h:p:=by simpa using ad):p:=h
theorem uj {p:Prop} (h:p:=by simpa using ab):p:=h
theorem fV {p:Prop} (h:p:=by simpa using h):p:=h
theorem cP {p:Prop} (h:p:=by simp;omega):p:=h
theorem nX {p:Prop} (h:p:=by cases h):p:=h
theorem ag {p:Prop} (h:p:=by omega):p:=h
theorem ba {p:Prop} (h:p:=by simp):p:=h
inductive gZ where
 | normal
 | exit (id:Nat)
 | ret
 | panic (chain:List PanicEntry)
def qv (P:Program) (m:Machine) (b:Frame) (k:List Item) (cs:List Frame):gZ→Act→World→Prop
  | .normal,a,w=>Steps P m (lone (b.atR a k) cs w)
  | .exit id,a,w=>(∀ k',exitTo id k=some k'→Steps P m (lone (b.atR a k') cs w)) ∧
      (exitTo id k=none→∃ k₁,exitTo id k₁=none∧Steps P m (lone (b.atR a (.code (.exit id)::k₁)) cs w))
  | .ret,a,w=>∃ k₁,Steps P m (lone (b.atR a (.code .ret::k₁)) cs w)
  | .panic dA,a,w=>∃ k₁,Steps P m (lone { b.atR a k₁ with mode := .panicking dA } cs w)
theorem qv.of_steps {P:Program} {m m₁:Machine} {b:Frame} {k:List Item} {cs:List Frame} {e:gZ} {a:Act} {w:World}
  (h:Steps P m m₁) (eL:qv P m₁ b k cs e a w):qv P m b k cs e a w:=by
 cases e with
 | normal=>exact h.trans eL
 | exit id=>exact ⟨fun k' aA=>h.trans (eL.1 k' aA),fun aA=>let ⟨k₁,U,ad⟩:=eL.2 aA;⟨k₁,U,h.trans ad⟩⟩
 | ret=>obtain ⟨k₁,ar⟩:=eL;exact ⟨k₁,h.trans ar⟩
 | panic dA=>obtain ⟨k₁,ar⟩:=eL;exact ⟨k₁,h.trans ar⟩
def jN (P:Program) (b:Frame) (c:Code) (Q:gZ→Act→World→Prop) (a:Act) (w:World):Prop:=
 ∀ (k:List Item) (cs:List Frame),∃ e c8 w',Q e c8 w'∧qv P (lone (b.atR a (.code c::k)) cs w) b k cs e c8 w'
section rules
variable {P:Program} {b:Frame} {Q:gZ→Act→World→Prop} {a:Act} {w:World}
theorem mh {c:Code} {oP:gZ→Act→World→Prop} (h:jN P b c Q a w) (bk:∀ e a w,Q e a w→oP e a w):jN P b c oP a w:=
 fun k cs=>let ⟨e,c8,w',q,r⟩:=h k cs;⟨e,c8,w',bk _ _ _ q,r⟩
theorem RG (h:Q .normal a w):jN P b .skip Q a w:=fun _ _=>⟨.normal,a,w,h,.one stepR_skip⟩
theorem RH (h:Q .ret a w):jN P b .ret Q a w:=fun k _=>⟨.ret,a,w,h,k,.refl P _⟩
theorem RI {id:Nat} (h:Q (.exit id) a w):jN P b (.exit id) Q a w:=
 fun k _=>⟨.exit id,a,w,h,fun _ aA => .one (stepR_exit aA),fun aA=>⟨k,aA,.refl P _⟩⟩
def gZ.andThen (next:Act→World→Prop) (Q:gZ→Act→World→Prop):gZ→Act→World→Prop
 | .normal,a,w=>next a w
 | e,a,w=>Q e a w
theorem qv.Kk {m:Machine} {c:Code} {k:List Item} {cs:List Frame} {e:gZ} {a:Act} {w:World} (x:Item) (ab:x.plain=true)
  (he:e ≠ .normal) (h:qv P m b (x::k) cs e a w):qv P m b k cs e a w:=by
 cases e with
 | normal=>exact absurd C he
 | exit id=>exact ⟨fun k' aA=>h.1 k' (by cases x<;>simp_all [exitTo,Item.plain]),fun aA=>h.2 (by cases x<;>simp_all [exitTo,Item.plain])⟩
 | ret=>exact h
 | panic dA=>exact h
theorem RJ {x y:Code} (h:jN P b x (gZ.andThen (jN P b y Q) Q) a w):jN P b (.seq x y) Q a w:=by
 intro k cs;obtain ⟨e,iI,w₁,bk,fW⟩:=h (.code y::k) cs;by_cases he:e = .normal
 ·subst he
  obtain ⟨zG,Cq,hJ,uk,um⟩:=bk k cs;exact ⟨zG,Cq,hJ,uk,.of_steps (.head stepR_seq fW) um⟩
 ·have uo:Q e iI w₁:=by cases e<;>first|exact absurd C he|exact bk
  exact ⟨e,iI,w₁,uo,.of_steps (.one stepR_seq) (qv.Kk (c:=y) (.code y) C he fW)⟩
theorem RK {c:Operand} {x y:Code} {t:Bool} (aF:a.eval c = .bool t) (h:jN P b (if t then x else y) Q a w):jN P b (.cond c x y) Q a w:=
 fun k cs=>let ⟨e,c8,w',q,r⟩:=h k cs;⟨e,c8,w',q,.of_steps (.one (stepR_cond aF)) r⟩
def gZ.inBlock (id:Nat) (Q:gZ→Act→World→Prop):gZ→Act→World→Prop
 | .exit kO,a,w=>if kO=id then Q .normal a w else Q (.exit kO) a w
 | e,a,w=>Q e a w
theorem RL {id:Nat} {c:Code} (h:jN P b c (gZ.inBlock id Q) a w):jN P b (.block id c) Q a w:=by
 intro k cs;obtain ⟨e,iI,w₁,bk,fW⟩:=h (.inBlock id::k) cs;cases e with
 | normal=>exact ⟨.normal,iI,w₁,bk,.head stepR_block (Steps.trans fW (.one stepR_inBlock))⟩
 | exit kO=>
  by_cases sQ:kO=id
  ·simp only [gZ.inBlock,sQ,ag7] at bk
   exact ⟨.normal,iI,w₁,bk,.head stepR_block (fW.1 k (by simp [exitTo,sQ]))⟩
  ·simp only [gZ.inBlock,sQ,ah9] at bk
   have cE:(id==kO)=false:=by simp;exact fun h=>sQ h.symm
   refine ⟨.exit kO,iI,w₁,bk,fun k' aA => .head stepR_block (fW.1 k' (by simp [exitTo,cE,aA])),fun aA=>?_⟩;obtain ⟨k₁,U,ad⟩:=fW.2 (by simp [exitTo,cE,aA]);exact ⟨k₁,U,.head stepR_block ad⟩
 | ret=>obtain ⟨k₁,ar⟩:=fW;exact ⟨.ret,iI,w₁,bk,k₁,.head stepR_block ar⟩
 | panic dA=>obtain ⟨k₁,ar⟩:=fW;exact ⟨.panic dA,iI,w₁,bk,k₁,.head stepR_block ar⟩
end rules
def Round (P:Program) (l:Nat) (f:FuncId) (tmps:Array Value) (hd body:Code) (w:World) (R:Ending→World→Prop):Prop:=
 ∀ (c:Frame) (cs:List Frame),∃ e w',R e w' ∧
  match e with
  | .returned v=>Steps P (lone (Frame.round l f tmps hd body .normal) (c::cs) w) (lone (c.finish v) cs w')
  | .panicked dA=>Steps P (lone (Frame.round l f tmps hd body .normal) (c::cs) w) (lone (c.raise dA) cs w')
  | .outgrown=>False
def sR (P:Program) (f:FuncId) (args:Array Value) (w:World) (R:Ending→World→Prop):Prop:=
 Calls P f args w fun e w'=>e ≠ .outgrown∧R e w'
theorem sR.mono {P:Program} {f:FuncId} {args:Array Value} {w:World} {R dt:Ending→World→Prop} (h:sR P f args w R)
  (aC:∀ e w',R e w'→dt e w'):sR P f args w dt:=Calls.mono h fun e w' ⟨U,ad⟩=>⟨U,aC e w' ad⟩
def zH (P:Program) (gw:Next) (w:World) (R:Ending→World→Prop):Prop:=
 match gw with
 | .value v=>R (.returned v) w
 | .skip=>R (.returned undef) w
 | .enter f args=>sR P f args w R
 | .round l f tmps hd body=>Round P l f tmps hd body w R
 | _=>False
def pJ (P:Program) (r:Result Next) (R:Ending→World→Prop):Prop:=
 match r with
 | .ok gw w'=>zH P gw w' R
 | .halt (.panic v) w'=>R (.panicked [{ v,recovered:=false }]) w'
 | _=>False
theorem Round.mono {P:Program} {l:Nat} {f:FuncId} {tmps:Array Value} {hd body:Code} {w:World} {R dt:Ending→World→Prop}
  (h:Round P l f tmps hd body w R) (aC:∀ e w',R e w'→dt e w'):Round P l f tmps hd body w dt :=
 fun c cs=>let ⟨e,w',r,s⟩:=h c cs;⟨e,w',aC _ _ r,s⟩
theorem zH.mono {P:Program} {gw:Next} {w:World} {R dt:Ending→World→Prop} (h:zH P gw w R)
  (aC:∀ e w',R e w'→dt e w'):zH P gw w dt:=by
 cases gw<;>first|exact aC _ _ h|exact sR.mono h aC|exact Round.mono h aC|exact h.elim
theorem pJ.mono {P:Program} {r:Result Next} {R dt:Ending→World→Prop} (h:pJ P r R) (aC:∀ e w',R e w'→dt e w'):pJ P r dt:=by
 unfold pJ at h ⊢;split at h
 ·exact zH.mono h aC
 ·exact aC _ _ h
 ·exact h.elim
def gE (o:Oper):Bool:=match o.op with | .defer _=>false|_=>true
section ops
variable {P:Program} {b:Frame} {a:Act} {k:List Item} {cs:List Frame} {w:World} {ops:Array Oper}
theorem RM {i:Nat} {rest:List Nat} {o:Oper} {R:Ending→World→Prop} (ah:ops[i]? = some o) (hw:Region.wanted o (yielded ops a.tmps)=true)
  (ay:gE o=true) (h:pJ P ((execOp a.eval o).run P w) R) :
  ∃ e w',R e w' ∧
   match e with
   | .returned v=>Steps P (lone (b.atR a (.inRegion ops (i::rest)::k)) cs w) (lone (b.atR (a.put o.dst v) (.inRegion ops rest::k)) cs w')
   | .panicked dA=>∃ k₁,Steps P (lone (b.atR a (.inRegion ops (i::rest)::k)) cs w) (lone { b.atR a k₁ with mode := .panicking dA } cs w')
   | .outgrown=>False:=by
 have av:=stepGR_op (P:=P) (b:=b) (k:=k) (cs:=cs) (w:=w) (rest:=rest) ah hw;have RN:o.semAt b.roundOf a.eval=execOp a.eval o:=Oper.semAt_eq _ _ _ (fun c aF=>by simp [gE,aF] at ay);rw [RN] at av;have qw:∀ v,(b.atR a (.inRegion ops (i::rest)::k)).finish v=b.atR (a.put o.dst v) (.inRegion ops rest::k):=by
  intro v;rw [Frame.finish_atR,ah];rfl
 unfold pJ at h;split at h
 ·rename_i gw w' aC
  cases gw with
  | value v=>
   refine ⟨.returned v,w',h,.one (step_lone_go ?_)⟩;rw [av,← qw];simp [stepG.apply,aC]
  | skip=>
   refine ⟨.returned undef,w',h,.one (step_lone_go ?_)⟩;rw [av,← qw];simp [stepG.apply,aC]
  | enter f args=>
   obtain ⟨e,mi,hf,⟨h4,dB⟩,sS,_,zI⟩:=h (b.atR a (.inRegion ops (i::rest)::k)::cs);have sT:step P (lone (b.atR a (.inRegion ops (i::rest)::k)) cs w) =
     .next (lone (Frame.enter P f args .normal) (b.atR a (.inRegion ops (i::rest)::k)::cs) w'):=
    step_lone_go (by rw [av];simp [stepG.apply,aC,Frame.atR])
   cases e with
   | returned v=>
    refine ⟨.returned v,mi,dB,.head sT (sS.trans (.one ?_))⟩;rw [← qw];exact step_leave_returned zI
   | panicked dA=>
    refine ⟨.panicked dA,mi,dB,.inRegion ops (i::rest)::k,.head sT (sS.trans (.one ?_))⟩;rw [← Frame.raise_atR];exact step_leave_panicked zI
   | outgrown=>exact absurd C h4
  | round l f tmps hd body=>
   obtain ⟨e,mi,dB,sS⟩:=h (b.atR a (.inRegion ops (i::rest)::k)) cs;have sT:step P (lone (b.atR a (.inRegion ops (i::rest)::k)) cs w) =
     .next (lone (Frame.round l f tmps hd body .normal) (b.atR a (.inRegion ops (i::rest)::k)::cs) w'):=
    step_lone_go (by rw [av];simp [stepG.apply,aC,Frame.atR])
   cases e with
   | returned v=>exact ⟨.returned v,mi,dB,.head sT (by rw [← qw];exact sS)⟩
   | panicked dA=>exact ⟨.panicked dA,mi,dB,.inRegion ops (i::rest)::k,.head sT (by rw [← Frame.raise_atR];exact sS)⟩
   | outgrown=>exact sS.elim
  | _=>exact h.elim
 ·rename_i v w' aC
  refine ⟨.panicked [{ v,recovered:=false }],w',h,.inRegion ops (i::rest)::k,.one (step_lone_go ?_)⟩;rw [av,← Frame.raise_atR];simp [stepG.apply,aC]
 ·exact h.elim
end ops
def iW (P:Program) (ops:Array Oper) (Q:gZ→Act→World→Prop):List Nat→Act→World→Prop
 | [],a,w=>Q .normal a w
 | i::rest,a,w=>
  match ops[i]? with
  | none=>iW P ops Q rest a w
  | some o=>
   if Region.wanted o (yielded ops a.tmps) then
    gE o=true∧pJ P ((execOp a.eval o).run P w) fun
     | .returned v,w'=>iW P ops Q rest (a.put o.dst v) w'
     | .panicked dA,w'=>Q (.panic dA) a w'
     | .outgrown,_=>False
   else iW P ops Q rest (a.put o.dst undef) w
theorem Kl {P:Program} {ops:Array Oper} {Q:gZ→Act→World→Prop} (b:Frame) (k:List Item) (cs:List Frame) (l:List Nat) :
  ∀ (a:Act) (w:World),iW P ops Q l a w→∃ e c8 w',Q e c8 w'∧qv P (lone (b.atR a (.inRegion ops l::k)) cs w) b k cs e c8 w':=by
 induction l with
 | nil=>exact fun a w h=>⟨.normal,a,w,h,.one stepR_region_end⟩
 | cons i rest aX=>
  intro a w h;simp only [iW] at h;cases ah:ops[i]? with
  | none=>
   simp only [ah] at h;obtain ⟨e,c8,w',bk,fW⟩:=aX a w h;have ar:=stepR_op_skip (P:=P) (b:=b) (a:=a) (k:=k) (cs:=cs) (w:=w) (ops:=ops) (i:=i) (rest:=rest) (by simp [ah]);simp only [ah,Option.bind_none,Act.put] at ar;exact ⟨e,c8,w',bk,.of_steps (.one ar) fW⟩
  | some o=>
   simp only [ah] at h;by_cases hw:Region.wanted o (yielded ops a.tmps)=true
   ·simp only [hw,ag7] at h
    obtain ⟨e,w',dB,aJ⟩:=RM (b:=b) (k:=k) (cs:=cs) (rest:=rest) ah hw h.1 h.2;cases e with
    | returned v=>
     obtain ⟨e,c8,mi,bk,fW⟩:=aX _ _ dB;exact ⟨e,c8,mi,bk,.of_steps aJ fW⟩
    | panicked dA=>exact ⟨.panic dA,a,w',dB,aJ⟩
    | outgrown=>exact aJ.elim
   ·simp only [hw,ah9,af6] at h
    obtain ⟨e,c8,w',bk,fW⟩:=aX _ _ h;have ar:=stepR_op_skip (P:=P) (b:=b) (a:=a) (k:=k) (cs:=cs) (w:=w) (ops:=ops) (i:=i) (rest:=rest)
     (by simp [ah];simpa using hw)
    simp only [ah,aj4] at ar;exact ⟨e,c8,w',bk,.of_steps (.one ar) fW⟩
theorem RO {P:Program} {b:Frame} {id:Nat} {ops:Array Oper} {Q:gZ→Act→World→Prop} {a:Act} {w:World}
  (h:iW P ops Q (ah0 ops.size) a w):jN P b (.region id ops false) Q a w:=
 fun k cs=>let ⟨e,c8,w',q,r⟩:=Kl b k cs _ a w h;⟨e,c8,w',q,.of_steps (.one stepR_region) r⟩
theorem RP {P:Program} {b:Frame} {id:Nat} {ops:Array Oper} {Q:gZ→Act→World→Prop} {a:Act} {w:World}
  (h:∀ t,iW P ops Q (Region.schedule (P.follows .mixedOrders) ops t) a { w with drawn:=w.drawn+1 }):jN P b (.region id ops true) Q a w:=
 fun k cs=>let ⟨e,c8,w',q,r⟩:=Kl b k cs _ a _ (h _);⟨e,c8,w',q,.of_steps (.one stepR_region_draw) r⟩
def hr (w:World):List Nat→World
 | []=>w
 | d::cf=>hr { w with heap:=w.heap.setIfInBounds d (.deferred none) } cf
def marksOf (cf:List Nat):List Deferred:=cf.map fun d=>{ target := .collected d,args := #[] }
theorem Fz {P:Program} {cs:List Frame}:∀ (cf:List Nat) (hf:Frame) (w:World),hf.mode ≠ .run→hf.defers=marksOf cf →
  (∀ d∈cf,w.heap[d]? = some (.deferred (some [])))→cf.Nodup→Steps P (lone hf cs w) (lone { hf with defers:=[] } cs (hr w cf)):=by
 intro cf
 induction cf with
 | nil=>
  intro hf w _ ay _ _;have:({ hf with defers:=[] }:Frame)=hf:=by cases hf;simp_all [marksOf]
  rw [this];exact .refl P _
 | cons d cf aX=>
  intro hf w hm ay an az;have nn:w.heap[d]? = some (.deferred (some [])):=an d (i8 ..);have aL:(Instr.takeDeferred d).run P w = .ok [] { w with heap:=w.heap.setIfInBounds d (.deferred none) }:=by
   unfold Instr.takeDeferred;simp only [ac',getObj,setObj,aw5,nn,Result.andThen];rfl
  have U:step P (lone hf cs w) = .next (lone { hf with defers:=marksOf cf } cs { w with heap:=w.heap.setIfInBounds d (.deferred none) }):=by
   refine step_lone_go ?_;cases vK:hf.mode with
   | run=>exact absurd vK hm
   | returning=>simp [stepG,unwind,vK,ay,marksOf,au',aL]
   | panicking chain=>simp [stepG,unwind,vK,ay,marksOf,au',aL]
  have eM:=as3.1 az;refine .head U (aX { hf with defers:=marksOf cf } _ hm C ?_ eM.2);intro c2 cq;have cE:d≠c2:=fun e=>eM.1 (e ▸ cq)
  simp only [ag9,cE,ah9];exact an c2 (i6 _ cq)
def RQ (P:Program) (fn:Func) (R:Ending→World→Prop):gZ→Act→World→Prop
  | .normal,a,w | .ret,a,w=>∃ cf,a.defers=marksOf cf∧cf.Nodup∧(∀ d∈cf,w.heap[d]? = some (.deferred (some []))) ∧
      ∃ v,(results fn a.tmps).run P (hr w cf) = .ok v (hr w cf)∧R (.returned v) (hr w cf)
  | .panic dA,a,w=>∃ cf,a.defers=marksOf cf∧cf.Nodup∧(∀ d∈cf,w.heap[d]? = some (.deferred (some [])))∧R (.panicked dA) (hr w cf)
  | .exit _,_,_=>False
theorem RR {P:Program} {f:FuncId} {fn:Func} {c:Code} {args:Array Value} {w:World} {R:Ending→World→Prop}
    (a7:P.funcs[f]? = some fn) (an:fn.body=some c)
    (h:∀ b:Frame,b.roundOf=none→(P.funcs[b.fn]?).isSome=true→jN P b c (RQ P fn R) { tmps:=args++al3 (fn.ntmps-args.size) undef,defers:=[] } w) :
    sR P f args w R:=by
  intro cs
  let b:Frame:={ (default:Frame) with fn:=f,kind := .normal,roundOf:=none }
  have sT:Frame.enter P f args .normal =
      b.atR { tmps:=args++al3 (fn.ntmps-args.size) undef,defers:=[] } [.code c]:=by
    simp [Frame.enter,Frame.atR,a7,an,b]
  obtain ⟨e,c8,w',bk,fW⟩:=h b rfl (by simp [b,a7]) [] cs;rw [← sT] at fW;cases e with
  | normal=>
    obtain ⟨cf,ay,az,kP,v,aC,dB⟩:=bk
    exact ⟨.returned v,_,_,⟨by simp,dB⟩,Steps.trans (Steps.trans fW (.one (stepR_end C)))
      (Fz cf { b.atR c8 [] with mode := .returning } w' ba ay kP az),rfl,rfl,rfl,rfl,fn,a7,aC⟩
  | ret=>
    obtain ⟨cf,ay,az,kP,v,aC,dB⟩:=bk;obtain ⟨k₁,ar⟩:=fW
    exact ⟨.returned v,_,_,⟨by simp,dB⟩,Steps.trans (Steps.trans ar (.one (stepR_ret C)))
      (Fz cf { b.atR c8 (.code .ret::k₁) with mode := .returning } w' ba ay kP az),rfl,rfl,rfl,rfl,fn,a7,aC⟩
  | panic dA=>
    obtain ⟨cf,ay,az,kP,dB⟩:=bk;obtain ⟨k₁,ar⟩:=fW;exact ⟨.panicked dA,_,_,⟨by simp,dB⟩,Steps.trans ar (Fz cf { b.atR c8 k₁ with mode := .panicking dA } w' ba ay kP az),rfl,rfl,rfl,fn,a7⟩
  | exit id=>exact bk.elim
def RS (P:Program) (l:Nat) (R:Ending→World→Prop):gZ→Act→World→Prop
 | .normal,_,w=>∃ v w',(Instr.endRound l none).run P w = .ok v w'∧R (.returned v) w'
 | .ret,_,w=>∃ v w',(Instr.endRound l (some .ret)).run P w = .ok v w'∧R (.returned v) w'
 | .exit id,_,w=>∃ v w',(Instr.endRound l (some (.exit id))).run P w = .ok v w'∧R (.returned v) w'
 | .panic dA,a,w=>a.defers=[]∧R (.panicked dA) w
theorem RT {P:Program} {l:Nat} {f:FuncId} {fn:Func} {tmps:Array Value} {hd body:Code} {w:World} {R:Ending→World→Prop}
  (a7:P.funcs[f]? = some fn)
  (h:∀ b:Frame,b.roundOf=some l→b.fn=f→jN P b hd (gZ.andThen (fun iI w₁=>∃ hJ,(Instr.beginRound l).run P w₁ = .ok () hJ∧jN P b body (RS P l R) iI hJ) (fun _ _ _=>False))
   { tmps:=tmps,defers:=[] } w):Round P l f tmps hd body w R:=by
 intro c cs
 let b:Frame:={ (default:Frame) with fn:=f,kind := .normal,roundOf:=some l }
 have rP:Frame.round l f tmps hd body .normal=b.atR { tmps:=tmps,defers:=[] } [.code hd,.beginRound,.code body]:=by
  simp [Frame.round,Frame.atR,b]
 obtain ⟨e,iI,w₁,bk,fW⟩:=h b rfl rfl [.beginRound,.code body] (c::cs);rw [← rP] at fW;by_cases he:e = .normal
 ·subst he
  obtain ⟨hJ,h5,sU⟩:=bk;have s1:=Steps.one (stepR_beginRound (P:=P) (b:=b) (a:=iI) (k:=[.code body]) (cs:=c::cs) C h5);obtain ⟨zG,Cq,iJ,uk,um⟩:=sU [] (c::cs);cases zG with
  | normal=>
   obtain ⟨v,lL,uq,dB⟩:=uk;exact ⟨.returned v,lL,dB,(Steps.trans fW s1).trans (Steps.trans um (.one (stepR_round_end C C uq)))⟩
  | ret=>
   obtain ⟨v,lL,uq,dB⟩:=uk;obtain ⟨k₁,ar⟩:=um;exact ⟨.returned v,lL,dB,(Steps.trans fW s1).trans (Steps.trans ar (.one (stepR_round_ret C C uq)))⟩
  | exit id=>
   obtain ⟨v,lL,uq,dB⟩:=uk;obtain ⟨k₁,aA,ar⟩:=um.2 rfl;exact ⟨.returned v,lL,dB,(Steps.trans fW s1).trans (Steps.trans ar (.one (stepR_round_exit C C aA uq)))⟩
  | panic dA=>
   obtain ⟨ay,dB⟩:=uk;obtain ⟨k₁,ar⟩:=um;refine ⟨.panicked dA,iJ,dB,(Steps.trans fW s1).trans (Steps.trans ar (.one ?_))⟩;exact step_lone_go (by simp [stepG,unwind,Frame.catches,Frame.atR,ay,b,a7])
 ·cases e<;>first|exact absurd C he|exact bk.elim
inductive bQ where
 | nil
 | clip
 | bc
 | own (b:Nat)
 deriving DecidableEq
inductive af where
 | any
 | bool (b:Bool)
 | int (k:IntKind) (n:Int)
 | str (s:List UInt8)
 | qx
 | ptr (b o:Nat)
 | br (cells:List af) (off:Nat)
 | mj (b:Nat) (cells:List af)
 | aB (sz:Nat) (xs:List af) (own:bQ)
 | Cr (b n:Nat)
 | sV
 | map (b:Nat)
 | func (f:FuncId) (first cap:List af)
 | hC (v:Value)
 | ur
 | iface (t:TypeId) (v:af)
 | nY
 | agg (cells:List af)
 | cu (vs:List af)
abbrev bU:=Nat→Nat→Prop
def flat (vs:List Value):List Value:=vs.flatMap fun v=>v.cells.toList
def vL (w:World) (p:bU) (b o:Nat) (vs:List Value):Prop:=∀ i v,vs[i]? = some v→p b (o+i)∧w.cell? ⟨b,o+i,none⟩=some v
def _root_.Go.World.kQ (w:World) (r:Nat):Option (TypeId×Nat):=
 match w.heap[r]? with
 | some (.cells c elem (0,0))=>some (elem,c.size)
 | _=>none
mutual
inductive Rel (w:World) (p:bU):Value→af→Prop
 | any (v:Value):Rel w p v .any
 | bool (b:Bool):Rel w p (.bool b) (.bool b)
 | int (k:IntKind) (n:Int):Rel w p (.int k n) (.int k n)
 | str (b:ByteArray) (s:List UInt8) (h:b.data.toList=s):Rel w p (.string b) (.str s)
 | qx:Rel w p (.pointer none) .qx
 | ptr (b o:Nat):Rel w p (.pointer (some ⟨b,o,none⟩)) (.ptr b o)
 | br (b base o off:Nat) (vs:List Value) (cells:List af) (ah:o=base+off) (aF:vL w p b base vs) (aC:bJ w p vs cells) :
   Rel w p (.pointer (some ⟨b,o,none⟩)) (.br cells off)
 | mj (b:Nat) (vs:List Value) (cells:List af) (az:vs≠[]) (ar:∃ x,w.kQ b=some x) (aF:vL w p b 0 vs) (aC:bJ w p vs cells):Rel w p (.pointer (some ⟨b,0,none⟩)) (.mj b cells)
 | hV (sz:Nat) (own:bQ) (h:∀ b,own ≠ .own b):Rel w p (.slice none 0 0) (.aB sz [] own)
 | ir (a:Addr) (sz:Nat) (own:bQ) (h:own = .bc∨own = .clip):Rel w p (.slice (some a) 0 0) (.aB sz [] own)
 | aB (g off n cap sz:Nat) (vs:List Value) (xs:List af) (own:bQ) (az:own ≠ .nil) (aE:n=xs.length) (aF:vL w p g off (flat vs)) (aC:bJ w p vs xs)
   (ar:∀ v∈vs,v.cells.size=sz) (hm:n≤9223372036854775807) (aA:n≤cap) (cj:own = .clip→cap=n)
   (ah:∀ b,own = .own b→b=g∧off=0∧∃ e,w.kQ g=some (e,cap*sz)):Rel w p (.slice (some ⟨g,off,none⟩) n cap) (.aB sz xs own)
 | Cr (b n cap:Nat) (hm:n≤9223372036854775807) (aA:n≤cap):Rel w p (.slice (some ⟨b,0,none⟩) n cap) (.Cr b n)
 | sV:Rel w p (.map none) .sV
 | map (b:Nat):Rel w p (.map (some b)) (.map b)
 | func (f:FuncId) (as cs:Array Value) (first cap:List af) (aR:bJ w p as.toList first) (aF:bJ w p cs.toList cap):Rel w p (.func (.func f) as cs) (.func f first cap)
 | hC (v:Value):Rel w p v (.hC v)
 | ur:Rel w p .nilFunc .ur
 | iface (t:TypeId) (v:Value) (x:af) (h:Rel w p v x):Rel w p (.iface t v) (.iface t x)
 | nY:Rel w p .nilIface .nY
 | agg (cs:Array Value) (xs:List af) (h:bJ w p cs.toList xs):Rel w p (.agg cs) (.agg xs)
 | cu (vs:Array Value) (xs:List af) (h:bJ w p vs.toList xs):Rel w p (.tuple vs) (.cu xs)
inductive bJ (w:World) (p:bU):List Value→List af→Prop
 | nil:bJ w p [] []
 | cons (v:Value) (x:af) (vs:List Value) (xs:List af) (h:Rel w p v x) (t:bJ w p vs xs):bJ w p (v::vs) (x::xs)
end
structure dc (w:World) (p:bU) (w':World) (bj:bU):Prop where
 os:w'.os=w.os
 tape:w'.tape=w.tape
 output:w'.output=w.output
 size:w.heap.size≤w'.heap.size
 lk:∀ b o,p b o→bj b o
 same:∀ b o,p b o→w'.cell? ⟨b,o,none⟩=w.cell? ⟨b,o,none⟩
 shape:∀ b x,w.kQ b=some x→w'.kQ b=some x
theorem dc.refl (w:World) (p:bU):dc w p w p:=⟨rfl,rfl,rfl,g9 _,fun _ _ h=>h,fun _ _ _=>rfl,fun _ _ h=>h⟩
theorem dc.trans {w w₁ hJ:World} {p p₁ ji:bU} (h:dc w p w₁ p₁) (k:dc w₁ p₁ hJ ji):dc w p hJ ji:=
 ⟨k.os.trans h.os,k.tape.trans h.tape,k.output.trans h.output,am' h.size k.size,fun b o aD=>k.lk b o (h.lk b o aD),
  fun b o aD=>(k.same b o (h.lk b o aD)).trans (h.same b o aD),fun b x ab=>k.shape b x (h.shape b x ab)⟩
theorem vL.mono {w w':World} {p bj:bU} (hle:dc w p w' bj) {b o:Nat} {vs:List Value} (h:vL w p b o vs):vL w' bj b o vs:=
 fun i v au=>let ⟨U,ad⟩:=h i v au;⟨hle.lk _ _ U,(hle.same _ _ U).trans ad⟩
mutual
theorem Rel.mono {w w':World} {p bj:bU} (hle:dc w p w' bj) {v:Value} {x:af} (h:Rel w p v x):Rel w' bj v x:=by
 cases h with
 | any v=>exact .any v
 | bool b=>exact .bool b
 | int k n=>exact .int k n
 | str b s h=>exact .str b s h
 | qx=>exact .qx
 | ptr b o=>exact .ptr b o
 | br b base o off vs cells ah aF aC=>exact .br b base o off vs cells ah (aF.mono hle) (aC.mono hle)
 | mj b vs cells az ar aF aC=>exact .mj b vs cells az (ar.imp fun x h=>hle.shape _ _ h) (aF.mono hle) (aC.mono hle)
 | hV sz own h=>exact .hV sz own h
 | ir a sz own h=>exact .ir a sz own h
 | aB g off n cap sz vs xs own az aE aF aC ar hm aA cj ah=>
  exact .aB g off n cap sz vs xs own az aE (aF.mono hle) (aC.mono hle) ar hm aA cj (fun b an=>let ⟨U,ad,e,aj⟩:=ah b an;⟨U,ad,e,hle.shape _ _ aj⟩)
 | Cr b n cap hm aA=>exact .Cr b n cap hm aA
 | sV=>exact .sV
 | map b=>exact .map b
 | func f as cs first cap aR aF=>exact .func f as cs first cap (aR.mono hle) (aF.mono hle)
 | hC v=>exact .hC v
 | ur=>exact .ur
 | iface t v x h=>exact .iface t v x (h.mono hle)
 | nY=>exact .nY
 | agg cs xs h=>exact .agg cs xs (h.mono hle)
 | cu vs xs h=>exact .cu vs xs (h.mono hle)
theorem bJ.mono {w w':World} {p bj:bU} (hle:dc w p w' bj) {vs:List Value} {xs:List af} (h:bJ w p vs xs):bJ w' bj vs xs:=by
 cases h with
 | nil=>exact .nil
 | cons v x vs xs h t=>exact .cons v x vs xs (h.mono hle) (t.mono hle)
end
section RU
variable {w:World} {p:bU}
theorem bJ.length {vs:List Value} {xs:List af} (h:bJ w p vs xs):vs.length=xs.length:=by
 induction vs generalizing xs with
 | nil=>cases h;rfl
 | cons v vs aX=>cases h with|cons _ x _ xs h t=>simp [aX t]
theorem bJ.get {vs:List Value} {xs:List af} (h:bJ w p vs xs) {i:Nat} {x:af} (ab:xs[i]? = some x):∃ v,vs[i]? = some v∧Rel w p v x:=by
 induction vs generalizing xs i with
 | nil=>cases h;simp at ab
 | cons v vs aX=>
  cases h with
  | cons _ y _ ys h t=>
   cases i with
   | zero=>simp at ab;subst ab;exact ⟨v,rfl,h⟩
   | succ i=>simp at ab;obtain ⟨u,U,ad⟩:=aX t ab;exact ⟨u,by simpa using U,ad⟩
theorem bJ.append {vs us:List Value} {xs ys:List af} (h:bJ w p vs xs) (k:bJ w p us ys):bJ w p (vs++us) (xs++ys):=by
 induction vs generalizing xs with
 | nil=>cases h;exact k
 | cons v vs aX=>cases h with|cons _ x _ xs h t=>exact .cons _ _ _ _ h (aX t)
theorem bJ.take {vs:List Value} {xs:List af} (h:bJ w p vs xs) (n:Nat):bJ w p (vs.take n) (xs.take n):=by
  induction vs generalizing xs n with
  | nil=>cases h;simp;exact .nil
  | cons v vs aX=>
    cases h with
    | cons _ x _ xs h t=>cases n with
      | zero=>exact .nil
      | succ n=>exact .cons _ _ _ _ h (aX t n)
theorem bJ.drop {vs:List Value} {xs:List af} (h:bJ w p vs xs) (n:Nat):bJ w p (vs.drop n) (xs.drop n):=by
  induction vs generalizing xs n with
  | nil=>cases h;simp;exact .nil
  | cons v vs aX=>
    cases h with
    | cons _ x _ xs h t=>cases n with
      | zero=>exact .cons _ _ _ _ h t
      | succ n=>exact aX t n
theorem bJ.set {vs:List Value} {xs:List af} (h:bJ w p vs xs) (i:Nat) {v:Value} {x:af} (au:Rel w p v x):bJ w p (vs.set i v) (xs.set i x):=by
  induction vs generalizing xs i with
  | nil=>cases h;exact .nil
  | cons u vs aX=>
    cases h with
    | cons _ y _ ys h t=>cases i with
      | zero=>exact .cons _ _ _ _ au t
      | succ i=>exact .cons _ _ _ _ h (aX t i)
theorem bJ.replicate {v:Value} {x:af} (h:Rel w p v x) (n:Nat):bJ w p (ab' n v) (ab' n x):=by
 induction n with
 | zero=>exact .nil
 | succ n aX=>exact .cons _ _ _ _ h aX
end RU
abbrev Env:=List (Nat×af)
def Env.get? : Env→Nat→Option af
 | [],_=>none
 | (t,v)::e,n=>if af2 t n then some v else Env.get? e n
inductive dC where
 | box (t:TypeId) (cells:List af)
 | row (t:TypeId) (sz n:Nat)
 | map (es:List (af×af))
 | ll (es:List (af×af)) (it:Nat) (left:List (af×af)) (cur:Option (af×af))
 | tick (m:Nat)
 | loop (r:Loop) (env:Env)
abbrev al:=Nat→Option dC
def lM (w:World) (p:bU) (cN:List MapEntry) (es:List (af×af)):Prop:=
 bJ w p (cN.map (·.key)) (es.map (·.1))∧bJ w p (cN.map (·.val)) (es.map (·.2))
def qy (w:World) (p:bU) (b:Nat):dC→Prop
  | .box t cs=>∃ vs:Array Value,w.heap[b]? = some (.cells vs t (0,0))∧bJ w p vs.toList cs∧∀ o,¬ p b o
  | .row t sz n=>∃ cur:Array Value,w.heap[b]? = some (.cells cur t (0,0))∧n*sz≤cur.size∧(∃ cap,cur.size=cap*sz)∧∀ o,p b o↔o<n*sz
  | .map es=>∃ cN clock,w.heap[b]? = some (.map cN clock)∧lM w p cN.toList es∧(∀ e∈cN.toList,e.born<clock)∧(cN.toList.map (·.born)).Nodup
  | .ll es it left cur=>∃ (cN:Array MapEntry) (clock:Nat) (seen:Array Nat),w.heap[b]? = some (.map cN clock)∧w.heap[it]? = some (.mapIter (some b) clock seen clock)∧lM w p cN.toList es ∧
      (∀ e∈cN.toList,e.born<clock)∧(cN.toList.map (·.born)).Nodup∧lM w p (cN.toList.filter fun e => !seen.contains e.born) left ∧
      ∀ k v,cur=some (k,v)→∃ Km e,seen.back? = some Km∧cN.find? (·.born==Km)=some e∧Rel w p e.key k∧Rel w p e.val v
  | .tick m=>∃ since seen last,w.heap[b]? = some (.mapIter (some m) since seen last)
  | .loop r env=>w.heap[b]? = some (.loop r)∧∀ t v,env.get? t=some v→Rel w p (r.tmps.getD t undef) v
structure dq (w:World) (p:bU) (s:al):Prop where
 obj:∀ b o,s b=some o→qy w p b o
 lt:∀ b o,p b o→b<w.heap.size
theorem qy.qz {w w':World} {p bj:bU} {b it:Nat} {es left:List (af×af)} {cur:Option (af×af)} (h:qy w p b (.ll es it left cur)) (hle:dc w p w' bj) (an:w'.heap[b]? = w.heap[b]?) (aN:w'.heap[it]? = w.heap[it]?) :
  qy w' bj b (.ll es it left cur):=by
 obtain ⟨cN,clock,seen,U,ad,aj,a',bz,fG,hs⟩:=h;exact ⟨cN,clock,seen,an.trans U,aN.trans ad,⟨aj.1.mono hle,aj.2.mono hle⟩,a',bz,⟨fG.1.mono hle,fG.2.mono hle⟩,fun k v aF=>let ⟨st,e,dN,a2,a3,a4⟩:=hs k v aF;⟨st,e,dN,a2,a3.mono hle,a4.mono hle⟩⟩
theorem qy.zJ {w:World} {p:bU} {b it d:Nat} {es left:List (af×af)} {cur:Option (af×af)} (h:qy w p b (.ll es it left cur)) {o:Obj} (ay:w.heap[d]? = some o) (ah:∀ m a s l,o ≠ .mapIter m a s l):it≠d:=by
 obtain ⟨cN,clock,seen,U,ad,aj⟩:=h;intro e;subst e;rw [ay] at ad;cases ad;exact ah _ _ _ _ C
structure Kept (s ak:al) (w:World) (p:bU) (w':World) (bj:bU):Prop where
 heap:∀ b,b<w.heap.size→s b=none→w'.heap[b]? = w.heap[b]?
 kR:∀ b,b<w.heap.size→s b=none→ak b=none
 lk:∀ b o,b<w.heap.size→s b=none→bj b o→p b o
theorem Kept.refl (s:al) (w:World) (p:bU):Kept s s w p w p:=⟨fun _ _ _=>rfl,fun _ _ h=>h,fun _ _ _ _ h=>h⟩
theorem Kept.trans {s s₁ dG:al} {w w₁ hJ:World} {p p₁ ji:bU} (ar:w.heap.size≤w₁.heap.size) (h:Kept s s₁ w p w₁ p₁) (k:Kept s₁ dG w₁ p₁ hJ ji):Kept s dG w p hJ ji:=
  ⟨fun b an az=>(k.heap b (ak8 an ar) (h.kR b an az)).trans (h.heap b an az),
   fun b an az=>k.kR b (ak8 an ar) (h.kR b an az),
   fun b o an az aD=>h.lk b o an az (k.lk b o (ak8 an ar) (h.kR b an az) aD)⟩
def x2:Value→Option af
 | .bool b=>some (.bool b)
 | .int k n=>some (.int k n)
 | .string s=>some (.str s.data.toList)
 | .pointer none=>some .qx
 | .slice none 0 0=>some (.aB 0 [] .nil)
 | .map none=>some .sV
 | .nilFunc=>some .ur
 | .nilIface=>some .nY
 | .tuple vs=>if vs.isEmpty then some (.cu []) else none
 | _=>none
def aK (env:Env):Operand→Option af
 | .tmp t=>env.get? t
 | .const v=>x2 v
 | .func f=>some (.func f [] [])
 | .global _=>none
theorem FA {w:World} {p:bU} {v:Value} {x:af} (h:x2 v=some x):Rel w p v x:=by
 unfold x2 at h;split at h<;>first|(cases h;done)|(cases h;first|exact .bool _|exact .int _ _|exact .str _ _ C|exact .qx|exact .hV _ _ (fun _=>by simp)|exact .sV|exact .ur|exact .nY)|skip
 rename_i vs;split at h
 ·rename_i he
  cases h;have:vs = #[]:=by simpa using he
  subst this;exact .cu _ _ .nil
 ·cases h
abbrev fO:=Nat×List Deferred
structure dx (N:Nat) (B:fO) (ro:Option Nat) (env:Env) (s:al) (a:Act) (w:World) (p:bU):Prop where
 size:a.tmps.size=N
 env:∀ t v,env.get? t=some v→Rel w p (a.tmps.getD t undef) v
 wf:dq w p s
 defs:∃ cf,a.defers=marksOf cf++B.2∧cf.Nodup∧∀ d∈cf,B.1≤d∧w.heap[d]? = some (.deferred (some []))∧s d=none
 round:∀ l,ro=some l→a.defers=[]∧(∃ r,w.heap[l]? = some (.loop r))∧s l=none
 base:B.1≤w.heap.size
theorem dx.aK {N:Nat} {B:fO} {ro:Option Nat} {env:Env} {s:al} {a:Act} {w:World} {p:bU} (h:dx N B ro env s a w p) {o:Operand} {x:af} (ab:aK env o=some x) :
  Rel w p (a.eval o) x:=by
 cases o with
 | tmp t=>exact h.env t x ab
 | const v=>exact FA ab
 | func f=>simp [Go.Proofs.YtnafpeohfbglmaaGreat.aK] at ab;subst ab;exact .func f #[] #[] [] [] .nil .nil
 | global g=>simp [Go.Proofs.YtnafpeohfbglmaaGreat.aK] at ab
theorem dx.step {N:Nat} {B:fO} {ro:Option Nat} {env:Env} {s ak:al} {a:Act} {w w':World} {p bj:bU} (h:dx N B ro env s a w p)
  (hle:dc w p w' bj) (aA:Kept s ak w p w' bj) (cg:dq w' bj ak):dx N B ro env ak a w' bj:=by
 obtain ⟨cf,U,ad,aj⟩:=h.defs;refine ⟨h.size,fun t v au=>(h.env t v au).mono hle,cg,⟨cf,U,ad,fun d ay=>?_⟩,fun l aE=>?_,am' h.base hle.size⟩
 ·obtain ⟨cI,nn,ar⟩:=aj d ay
  have aw:d<w.heap.size:=(t8.1 nn).1;exact ⟨cI,(aA.heap d aw ar).trans nn,aA.kR d aw ar⟩
 ·obtain ⟨ay,⟨r,aC⟩,ar⟩:=h.round l aE
  have aw:l<w.heap.size:=(t8.1 aC).1;exact ⟨ay,⟨r,(aA.heap l aw ar).trans aC⟩,aA.kR l aw ar⟩
theorem dx.put {N:Nat} {B:fO} {ro:Option Nat} {env:Env} {s:al} {a:Act} {w:World} {p:bU} (h:dx N B ro env s a w p) {d:Nat} (ay:d<N) {v:Value} {x:af}
  (au:Rel w p v x):dx N B ro ((d,x)::env) s (a.put (some d) v) w p:=by
 refine ⟨by simp [Act.put,h.size],fun t y ax=>?_,h.wf,h.defs,h.round,h.base⟩;simp only [Env.get?] at ax;split at ax
 ·rename_i he
  have vM:d=t:=ae0 he;cases ax;subst vM;have cq:d<a.tmps.size:=h.size.symm ▸ ay;simpa [Act.put,ag4,ag9,cq] using au
 ·rename_i he
  have vM:d≠t:=fun e=>he (by subst e;simp)
  have:=h.env t y ax;simpa [Act.put,ag4,ag9,vM] using this
inductive b6 where
 | normal
 | exit (id:Nat)
 | ret
 | panic (v:af)
def x3 (v:Value) (dA:List PanicEntry):Prop:=∃ rest,dA={ v,recovered:=false }::rest∧∀ e∈rest,e.goexit=false
theorem x3.one (v:Value):x3 v [{ v,recovered:=false }]:=⟨[],rfl,fun _ h=>by cases h⟩
inductive x4 (w:World) (p:bU):gZ→b6→Prop
 | normal:x4 w p .normal .normal
 | exit (id:Nat):x4 w p (.exit id) (.exit id)
 | ret:x4 w p .ret .ret
 | panic (v:Value) (x:af) (dA:List PanicEntry) (aF:x3 v dA) (h:Rel w p v x):x4 w p (.panic dA) (.panic x)
def kr (N:Nat) (B:fO) (ro:Option Nat) (s:al) (w:World) (p:bU) (Q:b6→Env→al→Prop) (e:gZ) (c8:Act) (w':World):Prop:=
 ∃ x eX ak bj,x4 w' bj e x∧Q x eX ak∧dx N B ro eX ak c8 w' bj∧dc w p w' bj∧Kept s ak w p w' bj
theorem kr.after {N:Nat} {B:fO} {ro:Option Nat} {s s₁:al} {w w₁ w':World} {p p₁:bU} {Q:b6→Env→al→Prop} {e:gZ} {c8:Act}
  (hle:dc w p w₁ p₁) (aA:Kept s s₁ w p w₁ p₁) (h:kr N B ro s₁ w₁ p₁ Q e c8 w'):kr N B ro s w p Q e c8 w' :=
 let ⟨x,eX,ak,bj,U,ad,aj,a',bz⟩:=h
 ⟨x,eX,ak,bj,U,ad,aj,hle.trans a',aA.trans hle.size bz⟩
def ae (P:Program) (N:Nat) (c:Code) (Q:b6→Env→al→Prop) (env:Env) (s:al):Prop:=
 ∀ (b:Frame) (B:fO) (a:Act) (w:World) (p:bU),(P.funcs[b.fn]?).isSome=true→dx N B b.roundOf env s a w p→jN P b c (kr N B b.roundOf s w p Q) a w
section RV
variable {P:Program} {N:Nat} {Q:b6→Env→al→Prop} {env:Env} {s:al}
theorem ae.mono {c:Code} {oP:b6→Env→al→Prop} (h:ae P N c Q env s) (bk:∀ e env s,Q e env s→oP e env s):ae P N c oP env s:=
 fun b B a w p eZ aJ=>mh (h b B a w p eZ aJ) fun _ _ _ ⟨x,eX,ak,bj,U,ad,aj⟩=>⟨x,eX,ak,bj,U,bk _ _ _ ad,aj⟩
theorem kr.here {B:fO} {ro:Option Nat} {a:Act} {w:World} {p:bU} {e:gZ} {x:b6} (ab:x4 w p e x) (bk:Q x env s) (h:dx N B ro env s a w p) :
  kr N B ro s w p Q e a w:=⟨x,env,s,p,ab,bk,h,.refl w p,.refl s w p⟩
theorem ae.skip (h:Q .normal env s):ae P N .skip Q env s:=fun _ _ _ _ _ _ aJ=>RG (.here .normal h aJ)
theorem ae.ret (h:Q .ret env s):ae P N .ret Q env s:=fun _ _ _ _ _ _ aJ=>RH (.here .ret h aJ)
theorem ae.exit {id:Nat} (h:Q (.exit id) env s):ae P N (.exit id) Q env s:=fun _ _ _ _ _ _ aJ=>RI (.here (.exit id) h aJ)
def b6.andThen (next:Env→al→Prop) (Q:b6→Env→al→Prop):b6→Env→al→Prop
 | .normal,e,s=>next e s
 | x,e,s=>Q x e s
theorem ae.seq {x y:Code} (h:ae P N x (b6.andThen (ae P N y Q) Q) env s):ae P N (.seq x y) Q env s:=by
 intro b B a w p eZ aJ;refine RJ (mh (h b B a w p eZ aJ) ?_);rintro e iI w₁ ⟨Cs,oQ,s₁,p₁,ab,bk,ln,hle,aA⟩;cases ab with
 | normal=>exact mh (bk b B iI w₁ p₁ eZ ln) fun _ _ _ h=>h.after hle aA
 | exit id=>exact ⟨_,oQ,s₁,p₁,.exit id,bk,ln,hle,aA⟩
 | ret=>exact ⟨_,oQ,s₁,p₁,.ret,bk,ln,hle,aA⟩
 | panic v x dA aF au=>exact ⟨_,oQ,s₁,p₁,.panic v x dA aF au,bk,ln,hle,aA⟩
theorem Ct {w:World} {p:bU} {v:Value} {t:Bool} (h:Rel w p v (.bool t)):v = .bool t:=by cases h;rfl
theorem ae.cond {c:Operand} {x y:Code} {t:Bool} (aF:aK env c=some (.bool t)) (aL:t=true→ae P N x Q env s) (a7:t=false→ae P N y Q env s) :
  ae P N (.cond c x y) Q env s:=by
 intro b B a w p eZ aJ;refine RK (Ct (aJ.aK aF)) ?_;cases t
 ·exact a7 C b B a w p eZ aJ
 ·exact aL C b B a w p eZ aJ
theorem ae.fH {c:Operand} {x y:Code} (aF:aK env c=some (.bool true)) (h:ae P N x Q env s):ae P N (.cond c x y) Q env s:=ae.cond aF (fun _=>h) ba
theorem ae.gF {c:Operand} {x y:Code} (aF:aK env c=some (.bool false)) (h:ae P N y Q env s):ae P N (.cond c x y) Q env s:=ae.cond aF ba (fun _=>h)
def b6.inBlock (id:Nat) (Q:b6→Env→al→Prop):b6→Env→al→Prop
 | .exit kO,a,w=>if af2 kO id then Q .normal a w else Q (.exit kO) a w
 | e,a,w=>Q e a w
theorem ae.block {id:Nat} {c:Code} (h:ae P N c (b6.inBlock id Q) env s):ae P N (.block id c) Q env s:=by
 intro b B a w p eZ aJ;refine RL (mh (h b B a w p eZ aJ) ?_);rintro e iI w₁ ⟨Cs,oQ,s₁,p₁,ab,bk,ln,hle,aA⟩;cases ab with
 | normal=>exact ⟨_,oQ,s₁,p₁,.normal,bk,ln,hle,aA⟩
 | exit kO=>
  by_cases sQ:kO=id
  ·simp only [b6.inBlock,sQ,au2,ag7] at bk
   simp only [gZ.inBlock,sQ,ag7];exact ⟨_,oQ,s₁,p₁,.normal,bk,ln,hle,aA⟩
  ·have an:af2 kO id=false:=by
    cases RW:af2 kO id with
    | false=>rfl
    | true=>exact absurd (ae0 RW) sQ
   simp only [b6.inBlock,an,ah9,af6] at bk;simp only [gZ.inBlock,sQ,ah9];exact ⟨_,oQ,s₁,p₁,.exit kO,bk,ln,hle,aA⟩
 | ret=>exact ⟨_,oQ,s₁,p₁,.ret,bk,ln,hle,aA⟩
 | panic v x dA aF au=>exact ⟨_,oQ,s₁,p₁,.panic v x dA aF au,bk,ln,hle,aA⟩
def aU (x y:af):Prop:=∀ w p v,Rel w p v x→Rel w p v y
theorem aU.refl (x:af):aU x x:=fun _ _ _ h=>h
def Env.Sub:Env→Env→Prop
 | [],_=>True
 | (t,v)::e,env=>(∃ fx,env.get? t=some fx∧aU fx v)∧Env.Sub e env
theorem Env.Sub.get {e env:Env} (h:Env.Sub e env) {t:Nat} {v:af} (au:e.get? t=some v):∃ fx,env.get? t=some fx∧aU fx v:=by
 induction e with
 | nil=>simp [Env.get?] at au
 | cons x e aX=>
  obtain ⟨bK,fx⟩:=x;simp only [Env.get?] at au;split at au
  ·rename_i he
   have vM:bK=t:=ae0 he;cases au;subst vM;exact h.1
  ·exact aX h.2 au
theorem dx.sub {B:fO} {ro:Option Nat} {e:Env} {a:Act} {w:World} {p:bU} (ar:Env.Sub e env) (h:dx N B ro env s a w p):dx N B ro e s a w p:=
 ⟨h.size,fun t v au=>let ⟨fx,U,ad⟩:=ar.get au;ad _ _ _ (h.env t fx U),h.wf,h.defs,h.round,h.base⟩
theorem ae.sub {c:Code} (e:Env) (ar:Env.Sub e env) (h:ae P N c Q e s):ae P N c Q env s:=
 fun b B a w p eZ aJ=>h b B a w p eZ (aJ.sub ar)
def al.Sub (ak s:al):Prop:=∀ b,ak b=s b∨ak b=none
theorem dq.sub {ak:al} {w:World} {p:bU} (ar:al.Sub ak s) (h:dq w p s):dq w p ak :=
 ⟨fun b o an=>h.obj b o (by rcases ar b with e|e<;>simp_all),h.lt⟩
theorem al.Sub.none {ak:al} (ar:al.Sub ak s) {b:Nat} (h:s b=none):ak b=none:=by rcases ar b with e|e<;>simp_all
theorem Kept.x5 {ak eN:al} (ar:al.Sub ak s) {w w':World} {p bj:bU} (h:Kept ak eN w p w' bj):Kept s eN w p w' bj :=
 ⟨fun b an az=>h.heap b an (ar.none az),fun b an az=>h.kR b an (ar.none az),fun b o an az=>h.lk b o an (ar.none az)⟩
theorem dx.FB {B:fO} {ro:Option Nat} {ak:al} {a:Act} {w:World} {p:bU} (ar:al.Sub ak s) (h:dx N B ro env s a w p):dx N B ro env ak a w p:=by
 obtain ⟨cf,U,ad,aj⟩:=h.defs;exact ⟨h.size,h.env,h.wf.sub ar,⟨cf,U,ad,fun d ay=>let ⟨a,b,c⟩:=aj d ay;⟨a,b,ar.none c⟩⟩,fun l aE=>let ⟨a,b,c⟩:=h.round l aE;⟨a,b,ar.none c⟩,h.base⟩
theorem ae.drop {c:Code} (ak:al) (ar:al.Sub ak s) (h:ae P N c Q env ak):ae P N c Q env s:=
 fun b B a w p eZ aJ=>mh (h b B a w p eZ (aJ.FB ar)) fun _ _ _ ⟨x,eX,eN,bj,U,ad,aj,a',bz⟩=>⟨x,eX,eN,bj,U,ad,aj,a',bz.x5 ar⟩
theorem ae.loop {σ:Type} {c:Code} (E:σ→Env) (S:σ→al) (aen:σ→Prop) (μ:σ→Nat) (nZ:σ) (aq:aen nZ) (eB:Env.Sub (E nZ) env) (cc:al.Sub (S nZ) s)
  (round:∀ x,aen x→ae P N c (b6.andThen (fun eX ak=>∃ y,aen y∧Env.Sub (E y) eX∧al.Sub (S y) ak∧μ y<μ x) Q) (E x) (S x)):ae P N (.loop c) Q env s:=by
 refine ae.sub _ eB (ae.drop _ cc ?_);intro b B a w p eZ aJ;have key:∀ n x a w p,μ x=n→aen x→dx N B b.roundOf (E x) (S x) a w p→∀ k cs,∃ e c8 w',kr N B b.roundOf (S x) w p Q e c8 w' ∧
   qv P (lone (b.atR a (.code c :: .inLoop c::k)) cs w) b k cs e c8 w':=by
  intro n
  induction n using av2 with
  | _ n aX=>
   intro x a w p az ab aJ k cs;obtain ⟨e,iI,w₁,⟨Cs,oQ,s₁,p₁,FC,bk,ln,hle,aA⟩,fW⟩:=round x ab b B a w p eZ aJ (.inLoop c::k) cs;by_cases he:e = .normal
   ·subst he
    cases FC;obtain ⟨y,ax,fX,Kn,aw⟩:=bk;obtain ⟨zG,Cq,hJ,uk,um⟩:=aX (μ y) (az ▸ aw) y iI w₁ p₁ rfl ax ((ln.sub fX).FB Kn) k cs;refine ⟨zG,Cq,hJ,kr.after hle aA ?_,.of_steps (Steps.trans fW (.one stepR_inLoop)) um⟩;obtain ⟨kS,eX,eN,bj,U,ad,aj,a',bz⟩:=uk;exact ⟨kS,eX,eN,bj,U,ad,aj,a',bz.x5 Kn⟩
   ·have uo:kr N B b.roundOf (S x) w p Q e iI w₁:=by
     refine ⟨Cs,oQ,s₁,p₁,FC,?_,ln,hle,aA⟩;cases FC<;>first|exact absurd C he|exact bk
    exact ⟨e,iI,w₁,uo,qv.Kk (c:=c) (.inLoop c) C he fW⟩
 intro k cs;obtain ⟨e,c8,w',bk,fW⟩:=key _ nZ a w p rfl aq aJ k cs;exact ⟨e,c8,w',bk,.of_steps (.one stepR_loop) fW⟩
end RV
def a6 (P:Program) (N:Nat) (o:Oper) (env:Env) (s:al) (K X:af→al→Prop):Prop:=
 gE o=true∧∀ ro B a w p,dx N B ro env s a w p→pJ P ((execOp a.eval o).run P w) fun e w'=>∃ ak bj,dc w p w' bj∧Kept s ak w p w' bj∧dq w' bj ak ∧
  match e with
  | .returned v=>∃ x,K x ak∧Rel w' bj v x
  | .panicked dA=>∃ v x,x3 v dA∧X x ak∧Rel w' bj v x
  | .outgrown=>False
theorem a6.mono {P:Program} {N:Nat} {o:Oper} {env:Env} {s:al} {K X aP np:af→al→Prop} (h:a6 P N o env s K X)
  (aA:∀ x s,K x s→aP x s) (ab:∀ x s,X x s→np x s):a6 P N o env s aP np :=
 ⟨h.1,fun ro B a w p aJ=>(h.2 ro B a w p aJ).mono fun e w' ⟨ak,bj,U,ad,aj,a'⟩=>⟨ak,bj,U,ad,aj,by
  cases e with
  | returned v=>obtain ⟨x,ab,aC⟩:=a';exact ⟨x,aA _ _ ab,aC⟩
  | panicked dA=>obtain ⟨v,x,aF,iu,aC⟩:=a';exact ⟨v,x,aF,ab _ _ iu,aC⟩
  | outgrown=>exact a'⟩⟩
def guardOf (ops:Array Oper) (env:Env) (o:Oper):Option Bool:=
  match o.guard with
  | none=>some true
  | some (j,want)=>
    match (ops[j]?).bind (·.dst) with
    | none=>some false
    | some d=>match env.get? d with
      | some (.bool b)=>some (match want with|true=>b|false => !b)
      | some (.cu [])=>some false
      | _=>none
theorem RX {w:World} {p:bU} {v:Value} (h:Rel w p v (.cu [])):v = .tuple #[]:=by
 cases h with
 | cu vs _ h=>have:=h.length;simp at this;rw [this]
theorem vN {N:Nat} {B:fO} {ro:Option Nat} {env:Env} {s:al} {a:Act} {w:World} {p:bU} (aJ:dx N B ro env s a w p) {ops:Array Oper} {o:Oper} {g:Bool}
  (h:guardOf ops env o=some g):Region.wanted o (yielded ops a.tmps)=g:=by
 unfold guardOf at h;unfold Region.wanted;split at h
 ·rename_i av;simp only [av];cases h;rfl
 ·rename_i j want av
  simp only [av];split at h
  ·rename_i ay
   cases h;simp [yielded,ay]
  ·rename_i d ay
   split at h
   ·rename_i b an
    have aC:=aJ.env d _ an;have au:=Ct aC;cases h;have ax:yielded ops a.tmps j=some b:=by
     unfold yielded;have:a.tmps[d]? = some (.bool b):=by
      rw [ag4] at au;cases ab:a.tmps[d]? with
      | none=>rw [ab] at au;simp [undef] at au
      | some v=>rw [ab] at au;simpa using au
     simp [ay,this]
    rw [ax];cases want<;>cases b<;>rfl
   ·rename_i an
    cases h;have aC:=aJ.env d _ an;have au:a.tmps.getD d undef = .tuple #[]:=by
     generalize Ko:a.tmps.getD d undef=v at aC;exact RX aC
    have ax:yielded ops a.tmps j=none:=by
     unfold yielded;rw [ag4] at au;simp only [ay,aj4];cases ab:a.tmps[d]? with
     | none=>rfl
     | some v=>rw [ab] at au;simp at au;subst au;rfl
    rw [ax];rfl
   ·cases h
def fI (P:Program) (N:Nat) (ops:Array Oper) (l:List Nat) (Q:b6→Env→al→Prop) (env:Env) (s:al):Prop:=
 ∀ ro B a w p,dx N B ro env s a w p→iW P ops (kr N B ro s w p Q) l a w
section rw
variable {P:Program} {N:Nat} {ops:Array Oper} {Q:b6→Env→al→Prop} {env:Env} {s:al}
theorem ae.region {id:Nat} (h:fI P N ops (ah0 ops.size) Q env s):ae P N (.region id ops false) Q env s:=
 fun b B a w p _ aJ=>RO (h b.roundOf B a w p aJ)
theorem fI.nil (h:Q .normal env s):fI P N ops [] Q env s:=fun _ _ _ _ _ aJ => .here .normal h aJ
theorem vO {Q oP:gZ→Act→World→Prop} (bk:∀ e a w,Q e a w→oP e a w):∀ (l:List Nat) (a:Act) (w:World),iW P ops Q l a w→iW P ops oP l a w:=by
 intro l
 induction l with
 | nil=>exact fun a w h=>bk _ _ _ h
 | cons i rest aX=>
  intro a w h;simp only [iW] at h ⊢;split at h
  ·rename_i ah;exact aX _ _ h
  ·rename_i o ah
   split at h
   ·rename_i hw
    rw [g6 hw];exact ⟨h.1,h.2.mono fun e w' he=>by cases e<;>first|exact aX _ _ he|exact bk _ _ _ he|exact he⟩
   ·rename_i hw
    rw [d9 hw];exact aX _ _ h
theorem fI.after {l:List Nat} {s₁:al} {ro:Option Nat} {B:fO} {a:Act} {w w₁:World} {p p₁:bU} {FD:Env}
  (hle:dc w p w₁ p₁) (aA:Kept s s₁ w p w₁ p₁) (h:fI P N ops l Q FD s₁) (aJ:dx N B ro FD s₁ a w₁ p₁):iW P ops (kr N B ro s w p Q) l a w₁:=
 vO (fun _ _ _ q=>q.after hle aA) l a w₁ (h ro B a w₁ p₁ aJ)
theorem fI.op {i:Nat} {l:List Nat} {o:Oper} {d:Nat} {K X:af→al→Prop} (ah:ops[i]? = some o) (av:guardOf ops env o=some true) (ay:o.dst=some d)
  (aT:aa' d N=true) (h:a6 P N o env s K X) (aA:∀ x ak,K x ak→fI P N ops l Q ((d,x)::env) ak) (ab:∀ x ak,X x ak→Q (.panic x) env ak) :
  fI P N ops (i::l) Q env s:=by
 intro ro B a w p aJ;have nq:d<N:=by simpa [an4] using aT
 simp only [iW,ah,vN aJ av,ag7];refine ⟨h.1,(h.2 ro B a w p aJ).mono ?_⟩;rintro e w' ⟨ak,bj,hle,lN,cg,he⟩;cases e with
 | returned v=>
  obtain ⟨x,bf,aC⟩:=he;rw [ay];exact fI.after hle lN (aA x ak bf) ((aJ.step hle lN cg).put nq aC)
 | panicked dA=>
  obtain ⟨v,x,kT,iu,aC⟩:=he;exact ⟨.panic x,env,ak,bj,.panic v x dA kT aC,ab x ak iu,aJ.step hle lN cg,hle,lN⟩
 | outgrown=>exact he
theorem fI.vP {i:Nat} {l:List Nat} {o:Oper} {K X:af→al→Prop} (ah:ops[i]? = some o) (av:guardOf ops env o=some true) (ay:o.dst=none)
  (h:a6 P N o env s K X) (aA:∀ x ak,K x ak→fI P N ops l Q env ak) (ab:∀ x ak,X x ak→Q (.panic x) env ak) :
  fI P N ops (i::l) Q env s:=by
 intro ro B a w p aJ;simp only [iW,ah,vN aJ av,ag7];refine ⟨h.1,(h.2 ro B a w p aJ).mono ?_⟩;rintro e w' ⟨ak,bj,hle,lN,cg,he⟩;cases e with
 | returned v=>
  obtain ⟨x,bf,aC⟩:=he;rw [ay];exact fI.after hle lN (aA x ak bf) (aJ.step hle lN cg)
 | panicked dA=>
  obtain ⟨v,x,kT,iu,aC⟩:=he;exact ⟨.panic x,env,ak,bj,.panic v x dA kT aC,ab x ak iu,aJ.step hle lN cg,hle,lN⟩
 | outgrown=>exact he
theorem FE {w:World} {p:bU}:Rel w p undef (.cu []) := .cu #[] [] .nil
theorem fI.skip {i:Nat} {l:List Nat} {o:Oper} {d:Nat} (ah:ops[i]? = some o) (av:guardOf ops env o=some false) (ay:o.dst=some d) (aT:aa' d N=true)
  (h:fI P N ops l Q ((d,.cu [])::env) s):fI P N ops (i::l) Q env s:=by
 intro ro B a w p aJ;have nq:d<N:=by simpa [an4] using aT
 simp only [iW,ah,vN aJ av,ah9,af6,ay];exact h ro B _ w p (aJ.put nq FE)
end rw
theorem dq.grow {w w':World} {p bj:bU} {s:al} (hle:dc w p w' bj) (cY:∀ b,b<w.heap.size→w'.heap[b]? = w.heap[b]?)
  (aD:∀ b o,b<w.heap.size→bj b o→p b o) (aw:∀ b o,bj b o→b<w'.heap.size) (h:dq w p s):dq w' bj s:=by
 refine ⟨fun b o an=>?_,aw⟩;have ah:=h.obj b o an;cases o with
 | box t cs=>
  obtain ⟨vs,U,ad,aj⟩:=ah;have sW:b<w.heap.size:=(t8.1 U).1;exact ⟨vs,(cY b sW).trans U,ad.mono hle,fun o fa=>aj o (aD b o sW fa)⟩
 | row t sz n=>
  obtain ⟨cur,U,ad,aj,a'⟩:=ah;have sW:b<w.heap.size:=(t8.1 U).1;exact ⟨cur,(cY b sW).trans U,ad,aj,fun o=>⟨fun fa=>(a' o).1 (aD b o sW fa),fun az=>hle.lk _ _ ((a' o).2 az)⟩⟩
 | map es=>
  obtain ⟨cN,clock,U,ad,aj,a'⟩:=ah;have sW:b<w.heap.size:=(t8.1 U).1;exact ⟨cN,clock,(cY b sW).trans U,⟨ad.1.mono hle,ad.2.mono hle⟩,aj,a'⟩
 | ll es it left cur=>
  obtain ⟨cN,clock,seen,U,ad,-⟩:=id ah;exact ah.qz hle (cY b (t8.1 U).1) (cY it (t8.1 ad).1)
 | tick m=>obtain ⟨dN,a2,a3,U⟩:=ah;exact ⟨dN,a2,a3,(cY b (t8.1 U).1).trans U⟩
 | loop r env=>exact ⟨(cY b (t8.1 ah.1).1).trans ah.1,fun t v h=>(ah.2 t v h).mono hle⟩
theorem ml (w:World) (o:Obj) (b:Nat) (h:b<w.heap.size):(w.alloc o).heap[b]? = w.heap[b]?:=by
 show (w.heap.push o)[b]? = _;rw [az6,d9 ag]
theorem uu (w:World) (o:Obj):(w.alloc o).heap[w.heap.size]? = some o:=by
 show (w.heap.push o)[w.heap.size]? = _;rw [az6,g6 C]
theorem x6 {w w':World} {b:Nat} (h:w'.heap[b]? = w.heap[b]?):w'.kQ b=w.kQ b:=by simp [World.kQ,h]
theorem x7 {w w':World} {b o:Nat} (h:w'.heap[b]? = w.heap[b]?):w'.cell? ⟨b,o,none⟩=w.cell? ⟨b,o,none⟩:=by simp [World.cell?,h]
theorem RY {w:World} {b:Nat} {x:TypeId×Nat} (h:w.kQ b=some x):b<w.heap.size:=by
 unfold World.kQ at h;split at h
 ·rename_i cY;exact (t8.1 cY).1
 ·cases h
theorem dc.of_heap {w w':World} {p bj:bU} (ah:w'.os=w.os) (aL:w'.tape=w.tape) (hu:w'.output=w.output) (ar:w.heap.size≤w'.heap.size)
  (aD:∀ b o,p b o→bj b o) (aw:∀ b o,p b o→b<w.heap.size) (cY:∀ b,b<w.heap.size→w'.heap[b]? = w.heap[b]?):dc w p w' bj :=
 ⟨ah,aL,hu,ar,aD,fun b o an=>x7 (cY b (aw b o an)),fun b x ab=>by rw [x6 (cY b (RY ab))];exact ab⟩
def bU.ea (p:bU) (b:Nat) (c:Prop):bU:=fun aW o=>p aW o∨(aW=b∧c)
section alloc
variable {w:World} {p:bU} {s:al}
theorem uv (aw:∀ b o,p b o→b<w.heap.size) (o:Obj) (c:Prop):dc w p (w.alloc o) (p.ea w.heap.size c):=
 dc.of_heap C C C ba (fun _ _ h => .inl h) aw (fun b an=>ml w o b an)
theorem zK (h:dq w p s) (o:Obj) (c:Prop):dq (w.alloc o) (p.ea w.heap.size c) s:=
  h.grow (uv h.lt o c) (fun b an=>ml w o b an) (fun b o an aD=>by rcases aD with aD|⟨rfl,_⟩;exact aD;omega)
    (fun b o aD=>by rcases aD with aD|⟨rfl,_⟩;have:=h.lt b o aD;simp;omega;simp)
theorem Cu (o:Obj) (c:Prop):Kept s s w p (w.alloc o) (p.ea w.heap.size c):=
 ⟨fun b an _=>ml w o b an,fun _ _ h=>h,fun b o an _ aD=>by rcases aD with aD|⟨rfl,_⟩;exact aD;omega⟩
theorem FF (vs:List Value) (t:TypeId):vL (w.alloc (.cells vs.toArray t)) (p.ea w.heap.size True) w.heap.size 0 vs:=by
 intro i v au;refine ⟨.inr ⟨rfl,trivial⟩,?_⟩;rw [af8];simp only [World.cell?,uu,au0,af6,ah9];simpa using au
theorem kU:dc w p w.drew p:=⟨rfl,rfl,rfl,g9 _,fun _ _ h=>h,fun _ _ _=>rfl,fun _ _ h=>h⟩
theorem x8 (h:dq w p s):dq w.drew p s:=h.grow kU (fun _ _=>rfl) (fun _ _ _ h=>h) h.lt
theorem vQ:Kept s s w p w.drew p:=⟨fun _ _ _=>rfl,fun _ _ h=>h,fun _ _ _ _ h=>h⟩
end alloc
inductive sX where
 | bool
 | int (k:IntKind)
 | str
 | ptr (e:TypeId)
 | aB (e:TypeId)
 | map (k e:TypeId)
 | struct (gG:List (Nat×TypeId))
 | iface (bare:Bool)
 | func
 | arr (n:Nat) (e:TypeId)
 | other
structure bN where
 bH:sX
 size:Nat
 bytes:Nat
 zero:Value
def ev:TypeDesc→sX
 | .bool => .bool
 | .int k => .int k
 | .string => .str
 | .pointer e => .ptr e
 | .slice e => .aB e
 | .map k e => .map k e
 | .struct gG => .struct (gG.toList.map fun f=>(f.offset,f.type))
 | .interface ms => .iface ms.isEmpty
 | .func .. => .func
 | .array n e => .arr n e
 | _ => .other
abbrev cy:=List (Nat×bN)
def cy.get? : cy→Nat→Option bN
 | [],_=>none
 | (t,v)::e,n=>if af2 t n then some v else cy.get? e n
def FG (P:Program) (t:TypeId):Option bN:=
  match P.info? t,P.underlying t with
  | some i,some d=>match i.zero with
    | some z=>some { bH:=ev d,size:=i.size,bytes:=i.bytes,zero:=z }
    | none=>none
  | _,_=>none
def bO (P:Program) (Γ:cy):Prop:=∀ t i,Γ.get? t=some i→FG P t=some i
theorem RZ (P:Program) (Γ:cy) (h:Γ.map (fun x=>FG P x.1)=Γ.map (fun x=>some x.2)):bO P Γ:=by
 induction Γ with
 | nil=>intro t i h;simp [cy.get?] at h
 | cons x Γ aX=>
  obtain ⟨bK,Cv⟩:=x;simp only [ae2,List.cons.injEq] at h;intro t i av;simp only [cy.get?] at av;split at av
  ·rename_i he
   have:=ae0 he;subst this;cases av;exact h.1
  ·exact aX h.2 t i av
theorem bO.parts {P:Program} {Γ:cy} (h:bO P Γ) {t:TypeId} {i:bN} (aN:Γ.get? t=some i) :
  ∃ info d,P.info? t=some info∧P.underlying t=some d∧ev d=i.bH∧info.size=i.size∧info.bytes=i.bytes∧info.zero=some i.zero:=by
 have:=h t i aN;unfold FG at this;split at this
 ·rename_i info d U ad
  split at this
  ·rename_i z bE
   cases this;exact ⟨info,d,U,ad,rfl,rfl,rfl,bE⟩
  ·cases this
 ·cases this
def cellsOf:af→Option (List af)
 | .agg cs=>some cs
 | .any=>none
 | .hC (.func f a c)=>some [.hC (.func f a c)]
 | .hC (.slice a n c)=>some [.hC (.slice a n c)]
 | .hC _=>none
 | .cu _=>none
 | v=>some [v]
theorem qA {w:World} {p:bU} {v:Value} {x:af} {cs:List af} (aC:Rel w p v x) (h:cellsOf x=some cs):bJ w p v.cells.toList cs:=by
 cases aC with
 | hC v=>
  cases v<;>simp [cellsOf] at h
  all_goals
   subst h;exact .cons _ _ _ _ (.hC _) .nil
 | any=>cases h
 | cu=>cases h
 | agg cs xs eL=>cases h;exact eL
 | _=>simp only [cellsOf] at h;cases h;simp only [Value.cells];refine .cons _ _ _ _ ?_ .nil;constructor<;>assumption
def uw:Nat→List af→Option (List af)
  | 0,_=>some []
  | n+1,v::r=>match uw n r with
    | some s=>some (v::s)
    | none=>none
  | _+1,[]=>none
def qB:Nat→List af→Option (List af)
 | 0,r=>some r
 | n+1,_::r=>qB n r
 | _+1,[]=>none
def nth {α:Type}:List α→Nat→Option α
 | [],_=>none
 | x::_,0=>some x
 | _::r,n+1=>nth r n
theorem x9 {α:Type} (l:List α) (n:Nat):nth l n=l[n]?:=by
  induction l generalizing n with
  | nil=>rfl
  | cons x l aX=>cases n with
    | zero=>rfl
    | succ n=>simp only [nth,ak0];exact aX n
theorem Cw {n:Nat} {l r:List af} (h:uw n l=some r):r=l.take n∧n≤l.length:=by
 induction n generalizing l r with
 | zero=>cases h;simp
 | succ n aX=>
  cases l with
  | nil=>simp [uw] at h
  | cons v l=>
   simp only [uw] at h;split at h
   ·rename_i s ar;cases h;obtain ⟨U,ad⟩:=aX ar;subst U;simp;omega
   ·cases h
theorem R0 {n:Nat} {l r:List af} (h:qB n l=some r):r=l.drop n:=by
  induction n generalizing l with
  | zero=>cases h;rfl
  | succ n aX=>cases l with
    | nil=>simp [qB] at h
    | cons v l=>simpa [qB] using aX (by simpa [qB] using h)
def hK (i:bN) (cells:List af) (off:Nat):Option af:=
  match qB off cells with
  | none=>none
  | some r=>match i.bH with
    | .struct _=>match uw i.size r with
      | some cs=>some (.agg cs)
      | none=>none
    | .arr _ _=>match uw i.size r with
      | some cs=>some (.agg cs)
      | none=>none
    | .other=>none
    | _=>match r with
      | v::_=>some v
      | []=>none
def hD:Value→Option af
  | .agg cs=>match cs.toList.mapM x2 with
    | some xs=>some (.agg xs)
    | none=>none
  | v=>x2 v
theorem R1 {w:World} {p:bU} {vs:List Value} {xs:List af} (h:vs.mapM x2=some xs):bJ w p vs xs:=by
 induction vs generalizing xs with
 | nil=>simp at h;subst h;exact .nil
 | cons v vs aX=>
  simp only [ay1,Option.bind_eq_bind,Option.pure_def,Option.bind_eq_some_iff,al'.injEq] at h;obtain ⟨x,ab,ys,pK,rfl⟩:=h;exact .cons _ _ _ _ (FA ab) (aX pK)
theorem qC {w:World} {p:bU} {v:Value} {x:af} (h:hD v=some x):Rel w p v x:=by
 unfold hD at h;split at h
 ·split at h
  ·rename_i cs xs ab;cases h;exact .agg _ _ (R1 ab)
  ·cases h
 ·exact FA h
def vR (d:TypeDesc):Bool:=match d with | .struct _ | .array _ _=>true|_=>false
theorem x' {P:Program} {t:TypeId} {d:TypeDesc} (h:P.underlying t=some d) (w:World):(isAgg t).run P w = .ok (vR d) w:=by
 unfold isAgg;rw [ac',run_underlying h,i5];cases d<;>rfl
theorem zL {d:TypeDesc} {gG:List (Nat×TypeId)} (h:ev d = .struct gG):∃ f:Array Field,d = .struct f∧gG=f.toList.map fun x=>(x.offset,x.type):=by
 cases d<;>simp [ev] at h;rename_i f;exact ⟨f,rfl,h.symm⟩
theorem zM {d:TypeDesc} {n:Nat} {e:TypeId} (h:ev d = .arr n e):d = .array n e:=by
 cases d<;>simp [ev] at h
 rw [h.1,h.2]
theorem Kp {d:TypeDesc} (U:∀ gG,ev d ≠ .struct gG) (aj:∀ n e,ev d ≠ .arr n e) (ad:ev d ≠ .other):vR d=false:=by
 cases d<;>simp_all [ev,vR]
def FH (op:BinOp) (k:IntKind) (a b:Int):Option af:=
 match op with
 | .add=>some (.int k (k.wrap (a+b)))
 | .sub=>some (.int k (k.wrap (a-b)))
 | .mul=>some (.int k (k.wrap (a*b)))
 | .eql=>some (.bool (a==b))
 | .neq=>some (.bool (a != b))
 | .lss=>some (.bool (decide (a<b)))
 | .leq=>some (.bool (decide (a≤b)))
 | .gtr=>some (.bool (decide (a>b)))
 | .geq=>some (.bool (decide (a≥b)))
 | _=>none
def FI (op:BinOp) (a b:List UInt8):Option af:=
 match op with
 | .eql=>some (.bool (a==b))
 | .neq=>some (.bool (!(a==b)))
 | .lss=>some (.bool (Op.bytesLess a b))
 | .gtr=>some (.bool (!(Op.bytesLess a b||a==b)))
 | .leq=>some (.bool (Op.bytesLess a b||a==b))
 | .geq=>some (.bool (!(Op.bytesLess a b)))
 | _=>none
def vS:af→Option Bool
 | .qx | .sV | .ur | .nY=>some true
 | .ptr _ _ | .br _ _ | .mj _ _ | .map _ | .func _ _ _ | .iface _ _=>some false
 | .aB _ _ .nil=>some true
 | .aB _ (_::_) _=>some false
 | .aB _ _ (.own _)=>some false
 | _=>none
inductive FJ where|ptr|aB|map|func|iface
def Kq:Operand→Option FJ
 | .const (.pointer none)=>some .ptr
 | .const (.slice none 0 0)=>some .aB
 | .const (.map none)=>some .map
 | .const .nilFunc=>some .func
 | .const .nilIface=>some .iface
 | _=>none
def sX.Cx:sX→FJ→Bool
 | .ptr _,.ptr=>true
 | .aB _,.aB=>true
 | .map _ _,.map=>true
 | .func,.func=>true
 | .iface _,.iface=>true
 | _,_=>false
def af.Cy:af→FJ→Bool
 | .qx,.ptr | .ptr _ _,.ptr | .br _ _,.ptr | .mj _ _,.ptr=>true
 | .aB _ _ _,.aB=>true
 | .sV,.map | .map _,.map=>true
 | .ur,.func | .func _ _ _,.func=>true
 | .nY,.iface | .iface _ _,.iface=>true
 | _,_=>false
def Cz (Γ:cy) (op:BinOp) (t:TypeId) (y:Operand) (a b:af):Option af:=
  match Kq y with
  | some k=>match Γ.get? t with
    | some i=>match i.bH.Cx k,a.Cy k,vS a,op with
      | true,true,some q,.eql=>some (.bool q)
      | true,true,some q,.neq=>some (.bool (!q))
      | _,_,_,_=>none
    | none=>none
  | none=>match a,b with
    | .int k x,.int k' z=>if k=k' then FH op k x z else none
    | .str x,.str z=>FI op x z
    | .bool x,.bool z=>match Γ.get? t,op with
      | some ⟨.bool,_,_,_⟩,.eql=>some (.bool (x==z))
      | some ⟨.bool,_,_,_⟩,.neq=>some (.bool (!(x==z)))
      | _,_=>none
    | .mj x _,.mj z _=>match Γ.get? t,op with
      | some ⟨.ptr e,_,_,_⟩,.eql=>match Γ.get? e with
        | some ⟨_,_+1,_,_⟩=>some (.bool (x==z))
        | _=>none
      | some ⟨.ptr e,_,_,_⟩,.neq=>match Γ.get? e with
        | some ⟨_,_+1,_,_⟩=>some (.bool (!(x==z)))
        | _=>none
      | _,_=>none
    | _,_=>none
theorem R2 {P:Program} {op:BinOp} {t:TypeId} {k:IntKind} {a b:Int} {x:af} (h:FH op k a b=some x) (w:World) (p:bU) :
  ∃ v,(binOp op t (.int k a) (.int k b)).run P w = .ok v w∧Rel w p v x:=by
 cases op<;>simp only [FH] at h<;>cases h<;>simp only [binOp,ne_eq,not_true_eq_false,ah9,Op.intArith,Op.intCmp,ae5] <;>
  first|exact ⟨_,rfl,.int _ _⟩|exact ⟨_,rfl,.bool _⟩
theorem R3 {P:Program} {op:BinOp} {t:TypeId} {a b:ByteArray} {x:af} (h:FI op a.data.toList b.data.toList=some x) (w:World) (p:bU) :
  ∃ v,(binOp op t (.string a) (.string b)).run P w = .ok v w∧Rel w p v x:=by
 cases op<;>simp only [FI] at h<;>cases h<;>simp only [binOp,Op.stringOp,ae5,ByteArray.toList_eq]<;>exact ⟨_,rfl,.bool _⟩
theorem Kr {w:World} {b:Nat} {x:TypeId×Nat} (h:w.kQ b=some x):∃ c T,w.heap[b]? = some (.cells c T (0,0)):=by
 unfold World.kQ at h;split at h
 ·rename_i c T cY;exact ⟨c,T,cY⟩
 ·cases h
theorem sY {P:Program} {op:BinOp} {t:TypeId} {x y:Operand} {a b:Value} (w:World) (h:(a = .nilIface∧b = .nilIface→∃ c,y = .const c)∧(∀ c,a ≠ .agg c)) :
  (eqGuard op t x y a b).run P w = .ok () w:=by
 cases a with
 | nilIface=>
  cases b with
  | nilIface=>
   obtain ⟨c,rfl⟩:=h.1 ⟨rfl,rfl⟩;cases x<;>cases op<;>rfl
  | _=>cases op<;>rfl
 | agg c=>exact absurd C (h.2 c)
 | _=>cases op<;>rfl
theorem vT {P:Program} {t:TypeId} {x y:Value} {q:Bool} {w:World} (an:binOp .eql t x y=(do pure (.bool (← Op.equal t x y)))) (az:binOp .neq t x y=(do pure (.bool (!(← Op.equal t x y)))))
  (h:∀ d,(Op.equalIn (d+1) t x y).run P w = .ok q w):(binOp .eql t x y).run P w = .ok (.bool q) w∧(binOp .neq t x y).run P w = .ok (.bool (!q)) w:=by
 have he:(Op.equal t x y).run P w = .ok q w:=h 9999;rw [an,az];simp only [ac',he,i5,ae5,and_self]
theorem R4 {w:World} {p:bU} {v:Value} {sz:Nat} {xs:List af} {own:bQ} {q:Bool} (h:Rel w p v (.aB sz xs own)) (bk:vS (.aB sz xs own)=some q) :
  (v = .slice none 0 0∧q=true)∨(∃ a n c,v = .slice (some a) n c∧q=false):=by
 cases h with
 | hV _ _ ah=>
  cases own<;>simp [vS] at bk
  ·exact .inl ⟨rfl,by simp [bk]⟩
  ·exact absurd C (ah _)
 | ir a _ _ ah=>rcases ah with rfl|rfl<;>simp [vS] at bk
 | aB g off n cap _ vs _ _ az aE aF aC ar hm aA cj ah=>
  refine .inr ⟨_,_,_,rfl,?_⟩;cases own<;>cases xs<;>simp [vS] at bk az<;>simp [bk]
theorem R5 {P:Program} {Γ:cy} (aQ:bO P Γ) {N:Nat} {B:fO} {ro:Option Nat} {env:Env} {s:al} {a:Act} {w:World} {p:bU} (aJ:dx N B ro env s a w p)
  {op:BinOp} {t yt:TypeId} {x y:Operand} {u v r:af} (ab:aK env x=some u) (ax:aK env y=some v) (h:Cz Γ op t y u v=some r) :
  ∃ val,(do eqGuard op t x y (a.eval x) (a.eval y);binOp op t (a.eval x) (a.eval y):Sem Value).run P w = .ok val w∧Rel w p val r:=by
 have hu:=aJ.aK ab;have au:=aJ.aK ax;unfold Cz at h;split at h
 ·rename_i k aA
  have R6:∃ c,y = .const c∧a.eval y=c∧((k = .ptr∧c = .pointer none)∨(k = .aB∧c = .slice none 0 0)∨(k = .map∧c = .map none)∨(k = .func∧c = .nilFunc)∨(k = .iface∧c = .nilIface)):=by
   unfold Kq at aA;split at aA<;>cases aA<;>exact ⟨_,rfl,rfl,by simp⟩
  obtain ⟨c,rfl,aF,CA⟩:=R6;rw [aF];split at h
  ·rename_i i aN
   obtain ⟨info,d,U,ad,aj,-⟩:=aQ.parts aN;have key:∀ q,vS u=some q→u.Cy k=true→i.bH.Cx k=true→(∀ cs,a.eval x ≠ .agg cs)∧(binOp .eql t (a.eval x) c).run P w = .ok (.bool q) w∧(binOp .neq t (a.eval x) c).run P w = .ok (.bool (!q)) w:=by
    intro q bk a7 ah;generalize a.eval x=dQ at hu;rw [← aj] at ah;have ar:∀ (g n cap:Nat) (o:Nat),True:=fun _ _ _ _=>trivial
    have df:∀ e sz xs own,d = .slice e→u = .aB sz xs own→(∀ cs,dQ ≠ .agg cs)∧(binOp .eql t dQ (.slice none 0 0)).run P w = .ok (.bool q) w∧(binOp .neq t dQ (.slice none 0 0)).run P w = .ok (.bool (!q)) w:=by
     rintro e sz xs own rfl rfl;rcases R4 hu bk with ⟨rfl,rfl⟩|⟨a,n,c,rfl,rfl⟩<;>(refine ⟨by simp,vT C C (fun d=>?_)⟩<;>simp [Op.equalIn,run_underlying ad])
    rcases CA with ⟨rfl,rfl⟩|⟨rfl,rfl⟩|⟨rfl,rfl⟩|⟨rfl,rfl⟩|⟨rfl,rfl⟩ <;>
    (try (cases d<;>simp only [ev,sX.Cx] at ah<;>(try (simp at ah;done))<;>cases u<;>simp only [af.Cy] at a7<;>(try (simp at a7;done))<;>exact df _ _ _ _ C C)) <;>
    cases d<;>simp only [ev,sX.Cx] at ah<;>(try (simp at ah;done)) <;>
    cases hu<;>simp only [af.Cy,vS] at a7 bk<;>(try (simp at a7;done)) <;>
    (try (cases bk)) <;>
    (refine ⟨by simp,vT C C (fun d=>?_)⟩<;>simp [Op.equalIn,run_underlying ad]<;>done)
   split at h
   ·rename_i q ah a7 bk
    cases h;obtain ⟨cF,dj,fe⟩:=key q bk a7 ah;exact ⟨_,by rw [ac',sY w ⟨fun _=>⟨_,rfl⟩,cF⟩,i5,dj],.bool _⟩
   ·rename_i q ah a7 bk
    cases h;obtain ⟨cF,dj,fe⟩:=key q bk a7 ah;exact ⟨_,by rw [ac',sY w ⟨fun _=>⟨_,rfl⟩,cF⟩,i5,fe],.bool _⟩
   ·cases h
  ·cases h
 ·split at h
  ·rename_i k z k' aep
   split at h
   ·rename_i lN
    subst lN;generalize a.eval x=dQ at hu;generalize a.eval y=fY at au;cases hu;cases au;obtain ⟨val,U,ad⟩:=R2 (P:=P) (t:=t) h w p;exact ⟨val,by rw [ac',sY w ⟨by simp,by simp⟩,i5,U],ad⟩
   ·cases h
  ·generalize a.eval x=dQ at hu;generalize a.eval y=fY at au
   cases hu with|str ha _ cd=>cases au with|str dk _ b1=>
   subst cd;subst b1;obtain ⟨val,U,ad⟩:=R3 (P:=P) (t:=t) h w p;exact ⟨val,by rw [ac',sY w ⟨by simp,by simp⟩,i5,U],ad⟩
  ·generalize a.eval x=dQ at hu;generalize a.eval y=fY at au
   cases hu;cases au;split at h
   ·rename_i aN
    obtain ⟨info,d,U,ad,aj,-⟩:=aQ.parts aN;have ay:d = .bool:=by cases d<;>simp [ev] at aj;rfl
    subst ay;cases h;exact ⟨_,by rw [ac',sY w ⟨by simp,by simp⟩,i5];exact run_eql_bool w t _ _ ad,.bool _⟩
   ·rename_i aN
    obtain ⟨info,d,U,ad,aj,-⟩:=aQ.parts aN;have ay:d = .bool:=by cases d<;>simp [ev] at aj;rfl
    subst ay;cases h;exact ⟨_,by rw [ac',sY w ⟨by simp,by simp⟩,i5];exact run_neq_bool w t _ _ ad,.bool _⟩
   ·cases h
  ·rename_i ha ac5 dk gb
   generalize a.eval x=dQ at hu;generalize a.eval y=fY at au;cases hu;cases au;rename_i v1 CB s1 cQ fr v2 zN s2 cV gx;have key:∀ e d i,P.underlying t=some (.pointer e)→Γ.get? e=some i→i.size≠0→(Op.equalIn (d+1) t (.pointer (some ⟨ha,0,none⟩)) (.pointer (some ⟨dk,0,none⟩))).run P w = .ok (ha==dk) w:=by
    intro e d i he aN bu;obtain ⟨mM,c2,n0,n1,vU,nr,-⟩:=aQ.parts aN;have b':mM.size≠0:=by rw [nr];exact bu
    have ar:(sameAddr ⟨ha,0,none⟩ ⟨dk,0,none⟩).run P w = .ok (ha==dk) w:=by
     by_cases an:ha=dk
     ·subst an;rw [beq_self_eq_true];exact run_sameAddr_same w _
     ·rw [beq_eq_false_iff_ne.2 an]
      obtain ⟨oR,aeM,cF⟩:=Kr s1.choose_spec;obtain ⟨oS,aeA,dj⟩:=Kr s2.choose_spec;exact run_sameAddr_other w (fun e=>an (ae7 Addr.block e)) cF dj
    simp only [Op.equalIn,ac',run_underlying he,i5,sizeOf,typeInfo,run_program,n0,ae5];rw [g6 (by simpa using b')];exact ar
   split at h
   ·rename_i aN
    obtain ⟨info,d,U,ad,aj,-⟩:=aQ.parts aN;obtain ⟨e,rfl⟩:∃ e,d = .pointer e:=by cases d<;>simp [ev] at aj;exact ⟨_,rfl⟩
    simp only [ev,sX.ptr.injEq] at aj;subst aj;split at h
    ·rename_i he
     cases h;exact ⟨_,by rw [ac',sY w ⟨by simp,by simp⟩,i5];exact (vT C C fun d=>key e d _ ad he ba).1,.bool _⟩
    ·cases h
   ·rename_i aN
    obtain ⟨info,d,U,ad,aj,-⟩:=aQ.parts aN;obtain ⟨e,rfl⟩:∃ e,d = .pointer e:=by cases d<;>simp [ev] at aj;exact ⟨_,rfl⟩
    simp only [ev,sX.ptr.injEq] at aj;subst aj;split at h
    ·rename_i he
     cases h;exact ⟨_,by rw [ac',sY w ⟨by simp,by simp⟩,i5];exact (vT C C fun d=>key e d _ ad he ba).2,.bool _⟩
    ·cases h
   ·cases h
  ·cases h
def fP (env:Env):List Operand→Option (List af)
  | []=>some []
  | o::r=>match aK env o with
    | some v=>match fP env r with
      | some vs=>some (v::vs)
      | none=>none
    | none=>none
theorem CC {N:Nat} {B:fO} {ro:Option Nat} {env:Env} {s:al} {a:Act} {w:World} {p:bU} (aJ:dx N B ro env s a w p) {l:List Operand} {vs:List af}
  (h:fP env l=some vs):bJ w p (l.map a.eval) vs:=by
 induction l generalizing vs with
 | nil=>cases h;exact .nil
 | cons o r aX=>
  simp only [fP] at h;split at h
  ·rename_i v au
   split at h
   ·rename_i us hu;cases h;exact .cons _ _ _ _ (aJ.aK au) (aX hu)
   ·cases h
  ·cases h
def eS:Nat→List af→List af→List af
 | _,[],cells=>cells
 | off,c::cs,cells=>eS (off+1) cs (cells.set off c)
def vV (place:Nat→Option (Nat×Nat)):List af→List (Nat×af)→Option (List af)
  | cells,[]=>some cells
  | cells,(i,v)::rest=>match place i,cellsOf v with
    | some (off,size),some cs=>match af2 cs.length size&&ao5 (off+size) cells.length with
      | true=>vV place (eS off cs cells) rest
      | false=>none
    | _,_=>none
def placesOf (Γ:cy):List (Nat×TypeId)→Option (List (Nat×Nat))
  | []=>some []
  | (off,t)::r=>match Γ.get? t with
    | some i=>match placesOf Γ r with
      | some l=>some ((off,i.size)::l)
      | none=>none
    | none=>none
def vW (env:Env):List (Nat×Operand)→Option (List (Nat×af))
  | []=>some []
  | (i,o)::r=>match aK env o with
    | some v=>match vW env r with
      | some l=>some ((i,v)::l)
      | none=>none
    | none=>none
def zO (env:Env) (sz:Nat):Nat→List (Nat×Operand)→Option (List af)
  | _,[]=>some []
  | k,(i,o)::r=>match af2 i k with
    | true=>match aK env o with
      | some v=>match cellsOf v with
        | some cs=>match af2 cs.length sz with
          | true=>match zO env sz (k+1) r with
            | some l=>some (v::l)
            | none=>none
          | false=>none
        | none=>none
      | none=>none
    | false=>none
def pL (Γ:cy) (o:Oper) (env:Env):Option af:=
  match o.op with
  | .move x=>aK env x
  | .assign x=>aK env x
  | .pick c a b=>match aK env c with
    | some (.bool true)=>aK env a
    | some (.bool false)=>aK env b
    | _=>none
  | .binOp op t x y _=>match aK env x,aK env y with
    | some a,some b=>Cz Γ op t y a b
    | _,_=>none
  | .unOp .not _ x=>match aK env x with
    | some (.bool b)=>some (.bool (!b))
    | _=>none
  | .extract x i=>match aK env x with
    | some (.cu vs)=>nth vs i
    | _=>none
  | .fieldAddr s x f=>match Γ.get? s with
    | some ⟨.struct gG,_,_,_⟩=>match nth gG f with
      | some (off,t)=>match Γ.get? t with
        | some ⟨_,_+1,_,_⟩=>match aK env x with
          | some (.ptr b o)=>some (.ptr b (o+off))
          | some (.br cs o)=>some (.br cs (o+off))
          | some (.mj _ cs)=>some (.br cs off)
          | _=>none
        | _=>none
      | none=>none
    | _=>none
  | .field s x f=>match Γ.get? s with
    | some ⟨.struct gG,_,_,_⟩=>match nth gG f with
      | some (off,t)=>match Γ.get? t with
        | some i=>match aK env x with
          | some (.agg cs)=>hK i cs off
          | _=>none
        | none=>none
      | none=>none
    | _=>none
  | .load t x=>match Γ.get? t with
    | some i=>match aK env x with
      | some (.br cs o)=>hK i cs o
      | some (.mj _ cs)=>hK i cs 0
      | _=>none
    | none=>none
  | .makeInterface t x=>match Γ.get? t with
    | some ⟨.iface _,_,_,_⟩=>none
    | some _=>match aK env x with
      | some v=>some (.iface t v)
      | none=>none
    | none=>none
  | .makeFunc (.func f) first cap=>match fP env first.toList,fP env cap.toList with
    | some a,some c=>some (.func f a c)
    | _,_=>none
  | .nilCheck x=>match aK env x with
    | some (.ptr b o)=>some (.ptr b o)
    | some (.br cs o)=>some (.br cs o)
    | some (.mj b cs)=>some (.mj b cs)
    | some (.func f a c)=>some (.func f a c)
    | _=>none
  | .typeAssert x _ t ok=>match Γ.get? t with
    | some ⟨.iface _,_,_,_⟩=>none
    | some i=>match aK env x with
      | some (.iface bK v)=>match af2 bK t,ok with
        | true,true=>some (.cu [v,.bool true])
        | true,false=>some v
        | false,true=>match hD i.zero with
          | some z=>some (.cu [z,.bool false])
          | none=>none
        | false,false=>none
      | some .nY=>match ok with
        | true=>match hD i.zero with
          | some z=>some (.cu [z,.bool false])
          | none=>none
        | false=>none
      | _=>none
    | none=>none
  | .call { callee := .builtin .len,args,argTypes }=>match args.toList,argTypes.toList with
    | [x],[t]=>match Γ.get? t with
      | some ⟨.aB _,_,_,_⟩=>match aK env x with
        | some (.aB _ xs _)=>some (.int .i64 xs.length)
        | _=>none
      | some ⟨.str,_,_,_⟩=>match aK env x with
        | some (.str l)=>some (.int .i64 l.length)
        | _=>none
      | _=>none
    | _,_=>none
  | .box _ x=>match aK env x with
    | some v=>match cellsOf v with
      | some cs=>some (.br cs 0)
      | none=>none
    | none=>none
  | .build t parts=>match Γ.get? t with
    | some ⟨.struct gG,_,_,z⟩=>match placesOf Γ gG,hD z,vW env parts.toList with
      | some pl,some (.agg aZ),some ps=>match vV (nth pl) aZ ps with
        | some cs=>some (.agg cs)
        | none=>none
      | _,_,_=>none
    | some ⟨.arr _ e,_,_,z⟩=>match Γ.get? e,hD z,vW env parts.toList with
      | some aG,some (.agg aZ),some ps=>match vV (fun i=>some (i*aG.size,aG.size)) aZ ps with
        | some cs=>some (.agg cs)
        | none=>none
      | _,_,_=>none
    | _=>none
  | .buildSlice t len parts=>match Γ.get? t with
    | some ⟨.aB e,_,_,_⟩=>match Γ.get? e with
      | some aG=>match af2 parts.size len&&(ao5 (len*aG.size) 16777216&&ao5 len 16777216) with
        | true=>match zO env aG.size 0 parts.toList with
          | some xs=>some (.aB aG.size xs .clip)
          | none=>none
        | false=>none
      | none=>none
    | _=>none
  | _=>none
def gR (P:Program) (o:Oper) (a:Act) (w:World) (p:bU) (v:af):Prop:=
 ∃ val w' bj,(execOp a.eval o).run P w = .ok (.value val) w'∧Rel w' bj val v∧dc w p w' bj∧(∀ s,dq w p s→Kept s s w p w' bj∧dq w' bj s)
theorem gR.same {P:Program} {o:Oper} {a:Act} {w:World} {p:bU} {v:af} {val:Value} (h:(execOp a.eval o).run P w = .ok (.value val) w) (aC:Rel w p val v) :
  gR P o a w p v:=⟨val,w,p,h,aC,.refl w p,fun s ar=>⟨.refl s w p,ar⟩⟩
theorem gR.alloc {P:Program} {o:Oper} {a:Act} {w:World} {p:bU} {v:af} {val:Value} (vs:Array Value) (t:TypeId) (aw:∀ b o,p b o→b<w.heap.size)
  (h:(execOp a.eval o).run P w = .ok (.value val) (w.alloc (.cells vs t))) (aC:Rel (w.alloc (.cells vs t)) (p.ea w.heap.size True) val v) :
  gR P o a w p v:=
 ⟨val,_,_,h,aC,uv aw _ _,fun _ ar=>⟨Cu _ _,zK ar _ _⟩⟩
theorem a6.ns {P:Program} {N:Nat} {o:Oper} {env:Env} {s:al} {v:af} (ay:gE o=true)
  (h:∀ ro B a w p,dx N B ro env s a w p→gR P o a w p v):a6 P N o env s (fun x ak=>x=v∧ak=s) (fun _ _=>False):=by
 refine ⟨ay,fun ro B a w p aJ=>?_⟩;obtain ⟨val,w',bj,cO,aC,hle,aA⟩:=h ro B a w p aJ;rw [cO];obtain ⟨lO,hL⟩:=aA s aJ.wf;exact ⟨s,bj,hle,lO,hL,v,⟨rfl,rfl⟩,aC⟩
theorem gS {P:Program} {x:Sem Value} {v:Value} {w w':World} (h:x.run P w = .ok v w'):(do pure (.value (← x)):Sem Next).run P w = .ok (.value v) w':=by
 simp only [ac',h,i5,ae5]
theorem lo (b o n:Nat):(⟨b,o,none⟩:Addr).add n=⟨b,o+n,none⟩:=by
 unfold Addr.add;split<;>simp_all
theorem Ks {w:World} {p:bU} {vs:List Value} {cells r:List af} {off:Nat} (aC:bJ w p vs cells) (h:qB off cells=some r):bJ w p (vs.drop off) r:=by
 rw [R0 h];exact aC.drop off
theorem zP {P:Program} {Γ:cy} (aQ:bO P Γ) {t:TypeId} {i:bN} (aN:Γ.get? t=some i) {w:World} {p:bU} {b base off:Nat} {vs:List Value} {cells:List af} {v:af}
  (aF:∀ j u,vs[j]? = some u→w.cell? ⟨b,base+j,none⟩=some u) (aC:bJ w p vs cells) (h:hK i cells off=some v) :
  ∃ val,(loadVar t ⟨b,base+off,none⟩).run P w = .ok val w∧Rel w p val v:=by
 obtain ⟨info,d,U,ad,aj,a',-⟩:=aQ.parts aN;unfold hK at h;split at h
 ·cases h
 ·rename_i r ay
  have jj:=Ks aC ay;have jC:∀ j u,(vs.drop off)[j]? = some u→w.cell? ((⟨b,base+off,none⟩:Addr).add j)=some u:=by
   intro j u hu;rw [lo,an9];exact aF _ _ (by simpa using hu)
  split at h
  ·rename_i gG bq
   split at h
   ·rename_i cs hE
    cases h;obtain ⟨rfl,hlen⟩:=Cw hE;obtain ⟨f,rfl,-⟩:=zL (aj.trans bq);have aE:((vs.drop off).take i.size).length=info.size:=by rw [ae8,jj.length,a'];omega
    have zQ:=run_loadCells_list (P:=P) w ⟨b,base+off,none⟩ ((vs.drop off).take i.size) (fun j u hu=>jC j u (by
     rw [ai2] at hu;split at hu;exact hu;cases hu))
    rw [aE] at zQ;refine ⟨_,?_,.agg _ _ (by simpa using jj.take i.size)⟩;simp only [loadVar,ac',x' ad,i5,vR,ag7,sizeOf,typeInfo,run_program,U,ae5,zQ]
   ·cases h
  ·rename_i Kt jD bq
   split at h
   ·rename_i cs hE
    cases h;obtain ⟨rfl,hlen⟩:=Cw hE;obtain rfl:=zM (aj.trans bq);have aE:((vs.drop off).take i.size).length=info.size:=by rw [ae8,jj.length,a'];omega
    have zQ:=run_loadCells_list (P:=P) w ⟨b,base+off,none⟩ ((vs.drop off).take i.size) (fun j u hu=>jC j u (by
     rw [ai2] at hu;split at hu;exact hu;cases hu))
    rw [aE] at zQ;refine ⟨_,?_,.agg _ _ (by simpa using jj.take i.size)⟩;simp only [loadVar,ac',x' ad,i5,vR,ag7,sizeOf,typeInfo,run_program,U,ae5,zQ]
   ·cases h
  ·cases h
  ·rename_i ar aR ah
   split at h
   ·rename_i x xs
    cases h;generalize Ku:vs.drop off=R7 at jj jC;cases jj with
    | cons u _ us _ ab aL=>
    have CD:=jC 0 u C;rw [lo,ao'] at CD;refine ⟨u,?_,ab⟩;have FK:=Kp (d:=d) (fun gG=>by rw [aj];exact ar gG) (fun n e=>by rw [aj];exact aR n e) (by rw [aj];exact ah);simp [loadVar,x' ad,FK,CD]
   ·cases h
theorem R8 {P:Program} {Γ:cy} (aQ:bO P Γ) {t:TypeId} {i:bN} (aN:Γ.get? t=some i) {w:World} {p:bU} {off:Nat} {vs:Array Value} {cells:List af} {v:af}
  (aC:bJ w p vs.toList cells) (h:hK i cells off=some v):∃ val,(part t vs off).run P w = .ok val w∧Rel w p val v:=by
 obtain ⟨info,d,U,ad,aj,a',-⟩:=aQ.parts aN;unfold hK at h;split at h
 ·cases h
 ·rename_i r ay
  have jj:=Ks aC ay;split at h
  ·rename_i gG bq
   split at h
   ·rename_i cs hE
    cases h;obtain ⟨rfl,hlen⟩:=Cw hE;obtain ⟨f,rfl,-⟩:=zL (aj.trans bq);refine ⟨.agg (vs.extract off (off+info.size)),?_,.agg _ _ ?_⟩
    ·simp only [part,ac',x' ad,i5,vR,ag7,sizeOf,typeInfo,run_program,U,ae5]
    ·have:(vs.extract off (off+info.size)).toList=(vs.toList.drop off).take i.size:=by simp [av4,a']
     rw [this];exact jj.take i.size
   ·cases h
  ·rename_i Kt jD bq
   split at h
   ·rename_i cs hE
    cases h;obtain ⟨rfl,hlen⟩:=Cw hE;obtain rfl:=zM (aj.trans bq);refine ⟨.agg (vs.extract off (off+info.size)),?_,.agg _ _ ?_⟩
    ·simp only [part,ac',x' ad,i5,vR,ag7,sizeOf,typeInfo,run_program,U,ae5]
    ·have:(vs.extract off (off+info.size)).toList=(vs.toList.drop off).take i.size:=by simp [av4,a']
     rw [this];exact jj.take i.size
   ·cases h
  ·cases h
  ·rename_i ar aR ah
   split at h
   ·rename_i x xs
    cases h;generalize Ku:vs.toList.drop off=R7 at jj;cases jj with
    | cons u _ us _ ab aL=>
    have bu:vs[off]? = some u:=by
     have:=ae7 (fun l=>l[0]?) Ku;simpa using this
    refine ⟨u,?_,ab⟩;have FK:=Kp (d:=d) (fun gG=>by rw [aj];exact ar gG) (fun n e=>by rw [aj];exact aR n e) (by rw [aj];exact ah);simp [part,x' ad,FK,bu]
   ·cases h
theorem R9 {w:World} {p:bU}:∀ (us:List Value) (cs:List af) (off:Nat) (vs:List Value) (xs:List af),bJ w p us cs→bJ w p vs xs →
  bJ w p ((us.zipIdx).foldl (fun l (c,j)=>l.set (off+j) c) vs) (eS off cs xs):=by
 have key:∀ (us:List Value) (cs:List af) (off k:Nat) (vs:List Value) (xs:List af),bJ w p us cs→bJ w p vs xs →
   bJ w p ((us.zipIdx k).foldl (fun l (c,j)=>l.set (off+j) c) vs) (eS (off+k) cs xs):=by
  intro us
  induction us with
  | nil=>intro cs off k vs xs h au;cases h;exact au
  | cons u us aX=>
   intro cs off k vs xs h au;cases h with
   | cons _ c _ cs aF aL=>
    simp only [aw7,ah4,eS];have:=aX cs off (k+1) _ _ aL (au.set (off+k) aF);rwa [← an9] at this
 intro us cs off vs xs h au;simpa using key us cs off 0 vs xs h au
theorem Kv (l:List (Value×Nat)) (off:Nat):∀ (vs:Array Value),(l.foldl (fun cs (c,j)=>cs.setIfInBounds (off+j) c) vs).toList=l.foldl (fun cs (c,j)=>cs.set (off+j) c) vs.toList:=by
 induction l with
 | nil=>intro vs;rfl
 | cons x l aX=>intro vs;simp only [ah4,aX,Array.toList_setIfInBounds]
theorem Kw {w:World} {p:bU} {place:Nat→Option (Nat×Nat)}:∀ (ps:List (Nat×Value)) (nt:List (Nat×af)) (vs:Array Value) (xs r:List af),
  ps.map (·.1)=nt.map (·.1)→bJ w p (ps.map (·.2)) (nt.map (·.2))→bJ w p vs.toList xs→vV place xs nt=some r →
  ∃ cs,Instr.fill place vs ps=some cs∧bJ w p cs.toList r:=by
 intro ps
 induction ps with
 | nil=>
  intro nt vs xs r U ad aj h;cases nt with
  | nil=>cases h;exact ⟨vs,rfl,aj⟩
  | cons q nt=>simp at U
 | cons x ps aX=>
  intro nt vs xs r U ad aj h;cases nt with
  | nil=>simp at U
  | cons q nt=>
   obtain ⟨i,v⟩:=x;obtain ⟨Cv,u⟩:=q;simp only [ae2,List.cons.injEq] at U;obtain ⟨rfl,U⟩:=U;simp only [ae2] at ad;cases ad with
   | cons _ _ _ _ au aL=>
   simp only [vV] at h;split at h
   ·rename_i off size cs aD hE
    split at h
    ·rename_i ux
     simp only [f9] at ux;have b':=ae0 ux.1;have hle:=ao4 ux.2;have nu:=qA au hE;have eO:v.cells.size=size:=by rw [← b',← nu.length,ae9]
     have dg:vs.size=xs.length:=by rw [← aj.length,ae9]
     have Kx:=R9 _ _ off _ _ nu aj;have bE:v.cells.toList.zipIdx=(v.cells.zipIdx).toList:=by simp
     rw [bE,← Kv] at Kx;obtain ⟨out,ah,zR⟩:=aX nt _ _ r U aL Kx h;refine ⟨out,?_,zR⟩;simp only [Instr.fill,aD];rw [d9 (by simp [eO];omega),← ah,← aw0]
    ·cases h
   ·cases h
theorem Ky {N:Nat} {B:fO} {ro:Option Nat} {env:Env} {s:al} {a:Act} {w:World} {p:bU} (aJ:dx N B ro env s a w p) {l:List (Nat×Operand)} {nt:List (Nat×af)}
  (h:vW env l=some nt):(l.map fun x=>(x.1,a.eval x.2)).map (·.1)=nt.map (·.1)∧bJ w p ((l.map fun x=>(x.1,a.eval x.2)).map (·.2)) (nt.map (·.2)):=by
 induction l generalizing nt with
 | nil=>cases h;exact ⟨rfl,.nil⟩
 | cons x l aX=>
  obtain ⟨i,o⟩:=x;simp only [vW] at h;split at h
  ·rename_i v au
   split at h
   ·rename_i r aC
    cases h;obtain ⟨U,ad⟩:=aX aC;exact ⟨by simp only [ae2,U],.cons _ _ _ _ (aJ.aK au) ad⟩
   ·cases h
  ·cases h
theorem R' {P:Program} {Γ:cy} (aQ:bO P Γ) (gG:List Field):∀ {pl:List (Nat×Nat)},placesOf Γ (gG.map fun x=>(x.offset,x.type))=some pl →
  gG.mapM (fun f=>(P.info? f.type).map fun i=>(f.offset,i.size))=some pl:=by
 induction gG with
 | nil=>intro pl h;cases h;rfl
 | cons f gG aX=>
  intro pl h;simp only [ae2,placesOf] at h;split at h
  ·rename_i i aN
   split at h
   ·rename_i l aE
    cases h;obtain ⟨info,d,U,-,-,a',-⟩:=aQ.parts aN;simp [ay1,U,aX aE,a']
   ·cases h
  ·cases h
theorem Kz (sz:Nat):∀ (vs:List Value) (k:Nat) (pre post:List Value),pre.length=k*sz→post.length=vs.length*sz→(∀ v∈vs,v.cells.size=sz) →
  Instr.fill (fun i=>some (i*sz,sz)) (pre++post).toArray ((vs.zipIdx k).map fun x=>(x.2,x.1))=some (pre++flat vs).toArray:=by
 intro vs
 induction vs with
 | nil=>intro k pre post U ad aj;have:post=[]:=ai6 qu;subst this;simp [Instr.fill,flat]
 | cons v vs aX=>
  intro k pre post U ad aj;have au:=aj v (i8 ..);simp only [aw7,ae2,Instr.fill];have hlen:post.length=sz+vs.length*sz:=by rw [ad,i0,ak5];omega
  rw [d9 (by simp [au];omega)];have sZ:(Array.foldl (fun cs x=>cs.setIfInBounds (k*sz+x.2) x.1) (pre++post).toArray v.cells.zipIdx)=((pre++v.cells.toList)++post.drop sz).toArray:=by
   apply ap';rw [← aw0];have:=Kv v.cells.zipIdx.toList (k*sz) (pre++post).toArray;simp only at this ⊢;rw [this];have bE:v.cells.zipIdx.toList=v.cells.toList.zipIdx:=by simp
   rw [bE];have gen:∀ (us:List Value) (j:Nat) (a b:List Value),a.length=k*sz+j→us.length≤b.length →
     (us.zipIdx j).foldl (fun cs (x:Value×Nat)=>cs.set (k*sz+x.2) x.1) (a++b)=a++us++b.drop us.length:=by
    intro us
    induction us with
    | nil=>intro j a b _ _;simp
    | cons u us Sa=>
     intro j a b aR an;cases b with
     | nil=>simp at an
     | cons c b=>
      simp only [aw7,ah4,i0,ao3];have:(a++c::b).set (k*sz+j) u=(a++[u])++b:=by
       rw [List.set_append_right _ _ ag];have:k*sz+j-a.length=0:=by omega
       rw [this];simp
      rw [this,Sa (j+1) (a++[u]) b cP (by simpa using an)];simp
   have fs:v.cells.toList.length=sz:=by rw [ae9,au]
   have:=gen v.cells.toList 0 pre post ag (by rw [fs];omega);rw [fs] at this;simpa using this
  rw [sZ];have:=aX (k+1) (pre++v.cells.toList) (post.drop sz) (by simp [U,au,ak5]) (by rw [ai5,hlen];omega) (fun u hu=>aj u (i6 _ hu));rw [this];simp [flat,aj9]
theorem Sb {N:Nat} {B:fO} {ro:Option Nat} {env:Env} {s:al} {a:Act} {w:World} {p:bU} (aJ:dx N B ro env s a w p) {sz:Nat}:∀ {l:List (Nat×Operand)} {k:Nat} {xs:List af},
    zO env sz k l=some xs→∃ vs:List Value,(l.map fun x=>(x.1,a.eval x.2))=(vs.zipIdx k).map (fun x=>(x.2,x.1))∧bJ w p vs xs∧(∀ v∈vs,v.cells.size=sz)∧vs.length=l.length:=by
  intro l
  induction l with
  | nil=>intro k xs h;cases h;exact ⟨[],rfl,.nil,by simp,rfl⟩
  | cons x l aX=>
    intro k xs h;obtain ⟨i,o⟩:=x;simp only [zO] at h;split at h
    · rename_i an
      split at h
      · rename_i v au
        split at h
        · rename_i cs hE
          split at h
          · rename_i aE
            split at h
            · rename_i r aC
              cases h;have:=ae0 an;subst this;obtain ⟨vs,U,ad,aj,a'⟩:=aX aC;have eT:=aJ.aK au;have b':(a.eval o).cells.size=sz:=by
                rw [← ae0 aE,← (qA eT hE).length,ae9]
              exact ⟨a.eval o::vs,by simp [U],.cons _ _ _ _ eT ad,by
                intro u hu;rcases af1.1 hu with rfl|hu;exact b';exact aj u hu,by simp [a']⟩
            · cases h
          · cases h
        · cases h
      · cases h
    · cases h
section
variable {P:Program} {Γ:cy} (aQ:bO P Γ) {N:Nat} {B:fO} {ro:Option Nat} {env:Env} {s:al} {a:Act} {w:World} {p:bU} (aJ:dx N B ro env s a w p)
include aJ
theorem KA {o:Oper} {x:Operand} {v:af} (ah:o.op = .move x∨o.op = .assign x) (h:aK env x=some v):gR P o a w p v:=by
 refine .same (val:=a.eval x) ?_ (aJ.aK h);unfold execOp;rcases ah with ah|ah<;>rw [ah]<;>rfl
theorem KB {o:Oper} {c x y:Operand} {v:af} {t:Bool} (ah:o.op = .pick c x y) (aF:aK env c=some (.bool t)) (h:aK env (if t then x else y)=some v):gR P o a w p v:=by
 refine .same (val:=a.eval (if t then x else y)) ?_ (aJ.aK h);unfold execOp;rw [ah];simp only [Ct (aJ.aK aF),asBool,ac',ae5,i5];cases t<;>rfl
include aQ
theorem Sc {o:Oper} {op:BinOp} {t yt:TypeId} {x y:Operand} {u v r:af} (ah:o.op = .binOp op t x y yt) (ab:aK env x=some u) (ax:aK env y=some v)
  (h:Cz Γ op t y u v=some r):gR P o a w p r:=by
 obtain ⟨val,U,ad⟩:=R5 aQ aJ (yt:=yt) ab ax h;refine .same (val:=val) ?_ ad;unfold execOp;rw [ah];exact gS U
omit aQ in
theorem Sd {o:Oper} {t:TypeId} {x:Operand} {b:Bool} (ah:o.op = .unOp .not t x) (ab:aK env x=some (.bool b)):gR P o a w p (.bool (!b)):=by
 refine .same (val := .bool (!b)) ?_ (.bool _);unfold execOp;rw [ah];simp only [Ct (aJ.aK ab)];exact gS (by simp [Op.unary])
omit aQ in
theorem Se {o:Oper} {x:Operand} {i:Nat} {vs:List af} {v:af} (ah:o.op = .extract x i) (ab:aK env x=some (.cu vs)) (h:nth vs i=some v):gR P o a w p v:=by
 have aC:=aJ.aK ab;generalize au:a.eval x=dQ at aC;cases aC with
 | cu us _ aE=>
 rw [x9] at h;obtain ⟨u,hu,zS⟩:=aE.get h;refine .same (val:=u) ?_ zS;unfold execOp;rw [ah];simp only [au]
 exact gS (by
  have:us[i]? = some u:=by simpa using hu
  simp [Instr.extract,this])
theorem FL {o:Oper} {S:TypeId} {x:Operand} {f sz mN:Nat} {gG:List (Nat×TypeId)} {z:Value} {off:Nat} {t:TypeId} {dX:bN} {v:af} (ah:o.op = .fieldAddr S x f)
  (cc:Γ.get? S=some ⟨.struct gG,sz,mN,z⟩) (a7:nth gG f=some (off,t)) (aL:Γ.get? t=some dX) (bu:dX.size≠0)
  (h:(∃ b o,aK env x=some (.ptr b o)∧v = .ptr b (o+off))∨(∃ cs o,aK env x=some (.br cs o)∧v = .br cs (o+off))∨(∃ b cs,aK env x=some (.mj b cs)∧v = .br cs off)):gR P o a w p v:=by
 obtain ⟨info,d,U,ad,aj,-⟩:=aQ.parts cc;obtain ⟨mM,c2,n0,n1,vU,nr,-⟩:=aQ.parts aL;obtain ⟨zT,rfl,kt⟩:=zL aj;rw [x9,kt,af3] at a7;obtain ⟨fd,FM,FN⟩:=ax7.1 a7;cases FN;have FO:zT[f]? = some fd:=by simpa using FM
 have b':mM.size≠0:=by rw [nr];exact bu
 have key:∀ b o',a.eval x = .pointer (some ⟨b,o',none⟩)→(execOp a.eval o).run P w = .ok (.value (.pointer (some ⟨b,o'+fd.offset,none⟩))) w:=by
  intro b o' ab;unfold execOp;rw [ah];simp only [ab];refine gS ?_;simp [Instr.fieldAt,run_underlying ad,FO,Instr.sureAddr,fieldPlace,sizeOf,typeInfo,n0,b',lo]
 rcases h with ⟨b,o',ab,rfl⟩|⟨cs,o',ab,rfl⟩|⟨b,cs,ab,rfl⟩
 ·have aC:=aJ.aK ab
  generalize au:a.eval x=dQ at aC;cases aC;exact .same (key _ _ au) (.ptr _ _)
 ·have aC:=aJ.aK ab
  generalize au:a.eval x=dQ at aC;cases aC with
  | br b base uy off vs _ lP aF hg=>
  exact .same (key _ _ au) (.br b base _ _ vs _ ag aF hg)
 ·have aC:=aJ.aK ab
  generalize au:a.eval x=dQ at aC;cases aC with
  | mj b vs _ _ _ aF hg=>
  exact .same (key _ _ au) (.br b 0 _ _ vs _ C aF hg)
theorem Sf {o:Oper} {S:TypeId} {x:Operand} {f sz mN:Nat} {gG:List (Nat×TypeId)} {z:Value} {off:Nat} {t:TypeId} {dX:bN} {cs:List af} {v:af} (ah:o.op = .field S x f)
  (cc:Γ.get? S=some ⟨.struct gG,sz,mN,z⟩) (a7:nth gG f=some (off,t)) (aL:Γ.get? t=some dX) (ab:aK env x=some (.agg cs)) (h:hK dX cs off=some v):gR P o a w p v:=by
 obtain ⟨info,d,U,ad,aj,-⟩:=aQ.parts cc;obtain ⟨zT,rfl,kt⟩:=zL aj;rw [x9,kt,af3] at a7;obtain ⟨fd,FM,FN⟩:=ax7.1 a7;cases FN;have FO:zT[f]? = some fd:=by simpa using FM
 have aC:=aJ.aK ab;generalize au:a.eval x=dQ at aC;cases aC with
 | agg us _ aE=>
 obtain ⟨val,cO,eT⟩:=R8 aQ aL aE h;refine .same (val:=val) ?_ eT;unfold execOp;rw [ah];simp only [au];refine gS ?_;simp [Instr.field,run_underlying ad,FO,asAgg,cO]
theorem KC {o:Oper} {t:TypeId} {x:Operand} {i:bN} {cs:List af} {off:Nat} {v:af} (ah:o.op = .load t x) (aL:Γ.get? t=some i) (ab:aK env x=some (.br cs off))
  (h:hK i cs off=some v):gR P o a w p v:=by
 have aC:=aJ.aK ab;generalize au:a.eval x=dQ at aC;cases aC with
 | br b base uy _ vs _ lP aF hg=>
 subst lP;obtain ⟨val,cO,eT⟩:=zP aQ aL (b:=b) (base:=base) (fun j u hu=>(aF j u hu).2) hg h;refine .same (val:=val) ?_ eT;unfold execOp;rw [ah];simp only [au];refine gS ?_;simp only [Instr.loadAt,Instr.sureAddr,ac',ae5,i5,cO]
theorem Sg {o:Oper} {t:TypeId} {x:Operand} {i:bN} {cs:List af} {b:Nat} {v:af} (ah:o.op = .load t x) (aL:Γ.get? t=some i) (ab:aK env x=some (.mj b cs))
  (h:hK i cs 0=some v):gR P o a w p v:=by
 have aC:=aJ.aK ab;generalize au:a.eval x=dQ at aC;cases aC with
 | mj b vs _ _ _ aF hg=>
 obtain ⟨val,cO,eT⟩:=zP aQ aL (b:=b) (base:=0) (fun j u hu=>(aF j u hu).2) hg h;refine .same (val:=val) ?_ eT;unfold execOp;rw [ah];simp only [au];refine gS ?_;simp only [Instr.loadAt,Instr.sureAddr,ac',ae5,i5];simpa using cO
theorem Sh {o:Oper} {t:TypeId} {x:Operand} {i:bN} {v:af} (ah:o.op = .makeInterface t x) (aL:Γ.get? t=some i) (aN:∀ b,i.bH ≠ .iface b) (ab:aK env x=some v) :
  gR P o a w p (.iface t v):=by
 obtain ⟨info,d,U,ad,aj,-⟩:=aQ.parts aL;refine .same (val := .iface t (a.eval x)) ?_ (.iface _ _ _ (aJ.aK ab));unfold execOp;rw [ah];refine gS ?_;have ay:∀ ms,d ≠ .interface ms:=fun ms e=>by subst e;exact aN _ aj.symm
 simp only [Instr.makeInterface,ac',run_underlying ad,i5];cases d<;>first|rfl|exact absurd C (ay _)
omit aQ in
theorem Si {o:Oper} {f:FuncId} {first cap:Array Operand} {zU ht:List af} (ah:o.op = .makeFunc (.func f) first cap) (a7:fP env first.toList=some zU) (aF:fP env cap.toList=some ht) :
  gR P o a w p (.func f zU ht):=by
 refine .same (val := .func (.func f) (first.map a.eval) (cap.map a.eval)) ?_ (.func _ _ _ _ _ (by simpa using CC aJ a7) (by simpa using CC aJ aF));unfold execOp;rw [ah];exact gS C
omit aQ in
theorem CE {o:Oper} {x:Operand} {v:af} (ah:o.op = .nilCheck x) (ab:aK env x=some v) (h:(∃ b o,v = .ptr b o)∨(∃ cs o,v = .br cs o)∨(∃ b cs,v = .mj b cs)∨(∃ f a c,v = .func f a c)):gR P o a w p v:=by
 have aC:=aJ.aK ab;refine .same (val:=a.eval x) ?_ aC;unfold execOp;rw [ah];simp only [];rcases h with ⟨b,o',rfl⟩|⟨cs,o',rfl⟩|⟨b,cs,rfl⟩|⟨f,as,cs,rfl⟩<;>generalize au:a.eval x=dQ at aC<;>cases aC<;>rfl
theorem CF {o:Oper} {x:Operand} {CG t:TypeId} {i:bN} {ok:Bool} {u v:af} (ah:o.op = .typeAssert x CG t ok) (aL:Γ.get? t=some i) (aN:∀ b,i.bH ≠ .iface b) (ab:aK env x=some u)
  (h:(∃ y,u = .iface t y∧v=if ok then .cu [y,.bool true] else y) ∨
   (ok=true∧(u = .nY∨∃ bK y,bK≠t∧u = .iface bK y)∧∃ z,hD i.zero=some z∧v = .cu [z,.bool false])):gR P o a w p v:=by
 obtain ⟨info,d,U,ad,aj,a',bz,fG⟩:=aQ.parts aL;have ay:∀ ms,d ≠ .interface ms:=fun ms e=>by subst e;exact aN _ aj.symm
 have aC:=aJ.aK ab;generalize au:a.eval x=dQ at aC;have bE:(zeroValue t).run P w = .ok i.zero w:=by simp [zeroValue,typeInfo,U,fG]
 rcases h with ⟨y,rfl,rfl⟩|⟨rfl,hu,z,CH,rfl⟩
 ·cases aC with
  | iface _ val _ ax=>
  have cO:(Instr.typeAssert (.iface t val) CG t ok).run P w = .ok (if ok then .tuple #[val,.bool true] else val) w:=by
   cases d<;>first|exact absurd C (ay _)|(simp only [Instr.typeAssert,ac',run_underlying ad,i5,ag7,ae5])
  refine .same (val:=if ok then .tuple #[val,.bool true] else val) ?_ (by cases ok;exact ax;exact .cu _ _ (.cons _ _ _ _ ax (.cons _ _ _ _ (.bool _) .nil)));unfold execOp;rw [ah];simp only [au];exact gS cO
 ·have cO:(Instr.typeAssert dQ CG t true).run P w = .ok (.tuple #[i.zero,.bool false]) w:=by
   rcases hu with rfl|⟨bK,y,cE,rfl⟩
   ·cases aC
    cases d<;>first|exact absurd C (ay _)|(simp only [Instr.typeAssert,ac',run_underlying ad,i5,ag7,bE,ae5])
   ·cases aC
    cases d<;>first|exact absurd C (ay _)|(simp only [Instr.typeAssert,ac',run_underlying ad,i5,ag7,d9 cE,bE,ae5])
  refine .same (val := .tuple #[i.zero,.bool false]) ?_ (.cu _ _ (.cons _ _ _ _ (qC CH) (.cons _ _ _ _ (.bool _) .nil)));unfold execOp;rw [ah];simp only [au];exact gS cO
theorem KD {o:Oper} {x:Operand} {t:TypeId} {i:bN} {u:af} {n:Nat} (ah:o.op = .call { callee := .builtin .len,args := #[x],argTypes := #[t] }) (aL:Γ.get? t=some i) (ab:aK env x=some u)
  (h:(∃ e sz xs own,i.bH = .aB e∧u = .aB sz xs own∧n=xs.length)∨(∃ l,i.bH = .str∧u = .str l∧n=l.length)):gR P o a w p (.int .i64 n):=by
 obtain ⟨info,d,U,ad,aj,-⟩:=aQ.parts aL;have aC:=aJ.aK ab;generalize au:a.eval x=dQ at aC;refine .same (val := .int .i64 n) ?_ (.int _ _);unfold execOp;rw [ah];simp only [resolve,invoke,builtin,ac',ae5,i5,ar7,ae2,ah2,au];rcases h with ⟨e,sz,xs,own,bq,rfl,rfl⟩|⟨l,bq,rfl,rfl⟩
 ·have ay:d = .slice e:=by rw [bq] at aj;cases d<;>simp [ev] at aj;rw [aj]
  subst ay;cases aC with
  | hV=>simp [Builtin.len_,run_underlying ad,goInt]
  | ir=>simp [Builtin.len_,run_underlying ad,goInt]
  | aB g off n cap sz vs _ _ az aE aF aC ar hm aA cj ah=>simp [Builtin.len_,run_underlying ad,goInt,aE]
 ·have ay:d = .string:=by rw [bq] at aj;cases d<;>simp [ev] at aj;rfl
  subst ay;cases aC with
  | str b _ e=>subst e;simp [Builtin.len_,run_underlying ad,goInt]
omit aQ in
theorem Sj {o:Oper} {t:TypeId} {x:Operand} {v:af} {cs:List af} (ah:o.op = .box t x) (ab:aK env x=some v) (aF:cellsOf v=some cs):gR P o a w p (.br cs 0):=by
 have aC:=aJ.aK ab;have nu:=qA aC aF;refine gR.alloc (a.eval x).cells t aJ.wf.lt (val := .pointer (some ⟨w.heap.size,0,none⟩)) ?_ ?_
 ·unfold execOp
  rw [ah];exact gS C
 ·refine .br _ 0 0 0 (a.eval x).cells.toList _ C ?_ (nu.mono (uv aJ.wf.lt _ _))
  have:=FF (w:=w) (p:=p) (a.eval x).cells.toList t;simpa using this
theorem Sk {o:Oper} {t:TypeId} {parts:Array (Nat×Operand)} {gG:List (Nat×TypeId)} {sz mN:Nat} {z:Value} {pl:List (Nat×Nat)} {aZ cs:List af} {ps:List (Nat×af)}
  (ah:o.op = .build t parts) (aL:Γ.get? t=some ⟨.struct gG,sz,mN,z⟩) (gH:placesOf Γ gG=some pl) (bE:hD z=some (.agg aZ)) (pM:vW env parts.toList=some ps)
  (h:vV (nth pl) aZ ps=some cs):gR P o a w p (.agg cs):=by
 obtain ⟨info,d,U,ad,aj,a',bz,fG⟩:=aQ.parts aL;obtain ⟨zT,rfl,kt⟩:=zL aj;rw [kt] at gH;have Sl:=R' aQ zT.toList gH;have FP:=qC (w:=w) (p:=p) bE;obtain ⟨cd,b1⟩:=Ky aJ pM;have uz:bJ w p z.cells.toList aZ:=qA FP C;have Sm:(fun x=>pl.toArray[x]?)=nth pl:=by funext x;rw [x9];simp
 obtain ⟨out,s0,qD⟩:=Kw _ _ z.cells aZ cs cd b1 uz h;refine .same (val := .agg out) ?_ (.agg _ _ qD);unfold execOp;rw [ah];refine gS (run_build w t _ out ?_);unfold Program.built;simp only [U,ad,fG,Sl];rw [Sm];simpa using s0
theorem Sn {o:Oper} {t e:TypeId} {n:Nat} {parts:Array (Nat×Operand)} {sz mN:Nat} {z:Value} {aG:bN} {aZ cs:List af} {ps:List (Nat×af)}
  (ah:o.op = .build t parts) (aL:Γ.get? t=some ⟨.arr n e,sz,mN,z⟩) (he:Γ.get? e=some aG) (bE:hD z=some (.agg aZ)) (pM:vW env parts.toList=some ps)
  (h:vV (fun i=>some (i*aG.size,aG.size)) aZ ps=some cs):gR P o a w p (.agg cs):=by
 obtain ⟨info,d,U,ad,aj,a',bz,fG⟩:=aQ.parts aL;obtain ⟨mM,c2,n0,n1,vU,nr,KE,CI⟩:=aQ.parts he;obtain rfl:=zM aj;have FP:=qC (w:=w) (p:=p) bE;obtain ⟨cd,b1⟩:=Ky aJ pM;have uz:bJ w p z.cells.toList aZ:=qA FP C;obtain ⟨out,s0,qD⟩:=Kw _ _ z.cells aZ cs cd b1 uz h;refine .same (val := .agg out) ?_ (.agg _ _ qD);unfold execOp;rw [ah];refine gS (run_build w t _ out ?_);unfold Program.built;simp only [U,ad,fG,n0,nr];simpa using s0
theorem Sp {o:Oper} {t e:TypeId} {len:Nat} {parts:Array (Nat×Operand)} {sz mN:Nat} {z:Value} {aG:bN} {xs:List af}
  (ah:o.op = .buildSlice t len parts) (aL:Γ.get? t=some ⟨.aB e,sz,mN,z⟩) (he:Γ.get? e=some aG) (hlen:parts.size=len) (CJ:len*aG.size≤16777216) (ac6:len≤16777216)
  (h:zO env aG.size 0 parts.toList=some xs):gR P o a w p (.aB aG.size xs .clip):=by
 obtain ⟨info,d,U,ad,aj,-⟩:=aQ.parts aL;obtain ⟨mM,c2,n0,n1,vU,nr,KE,CI⟩:=aQ.parts he;have ay:d = .slice e:=by cases d<;>simp [ev] at aj;rw [aj]
 subst ay;obtain ⟨vs,cd,b1,ek,j8⟩:=Sb aJ h;have fs:vs.length=len:=by rw [j8,ae9,hlen]
 have kt:(flat vs).length=len*aG.size:=by
  rw [← fs];clear cd b1 j8 fs h
  induction vs with
  | nil=>simp [flat]
  | cons v vs aX=>
   have:=aX (fun u hu=>ek u (i6 _ hu));simp only [flat,aj9,f8,ae9,i0] at this ⊢;rw [ek v (i8 ..)];have eL:(aD5 (fun v=>v.cells.toList) vs).length=vs.length*aG.size:=this;rw [eL,ak5];omega
 have s0:∀ s3:Array Value,s3.size=len*aG.size→Instr.fill (fun i=>some (i*aG.size,aG.size)) s3 (parts.map fun x=>(x.1,a.eval x.2)).toList=some (flat vs).toArray:=by
  intro s3 oT;have:=Kz aG.size vs 0 [] s3.toList ba (by rw [ae9,oT,fs]) ek;simp only [d8] at this;rw [Array.toList_map,cd];simpa using this
 refine gR.alloc (flat vs).toArray e aJ.wf.lt (val := .slice (some ⟨w.heap.size,0,none⟩) len len) ?_ ?_
 ·unfold execOp
  rw [ah];refine gS ?_;have ac7:¬ (16777216<len*aG.size):=by omega
  have nv:¬ (len*aG.size>2^24):=by omega
  unfold Instr.buildSlice;simp only [ac',run_underlying ad,i5,sizeOf,typeInfo,run_program,n0,ae5,nr,d9 nv];by_cases bu:len*aG.size=0
  ·rw [g6 bu,ac',ae5,i5,s0 _ ba]
   rfl
  ·rw [d9 bu]
   simp only [zeroValue,typeInfo,ac',run_program,n0,CI,ae5,i5];rw [s0 _ ba];rfl
 ·refine .aB _ 0 _ _ _ vs _ _ ba (by rw [← b1.length,fs]) ?_ (b1.mono (uv aJ.wf.lt _ _)) ek ?_ (g9 _) (fun _=>rfl) (fun b an=>by cases an)
  ·exact FF (w:=w) (p:=p) (flat vs) e
  ·omega
theorem KF {o:Oper} {v:af} (h:pL Γ o env=some v):gR P o a w p v:=by
 unfold pL at h;split at h
 ·rename_i x ah;exact KA aJ (.inl ah) h
 ·rename_i x ah;exact KA aJ (.inr ah) h
 ·rename_i c x y ah
  split at h
  ·rename_i aF;exact KB aJ (t:=true) ah aF h
  ·rename_i aF;exact KB aJ (t:=false) ah aF h
  ·cases h
 ·rename_i op t x y yt ah
  split at h
  ·rename_i u fx ab ax;exact Sc aQ aJ ah ab ax h
  ·cases h
 ·rename_i t x ah
  split at h
  ·rename_i b an;cases h;exact Sd aJ ah an
  ·cases h
 ·rename_i x i ah
  split at h
  ·rename_i vs ab;exact Se aJ ah ab h
  ·cases h
 ·rename_i S x f ah
  split at h
  ·rename_i gG sz mN z cc
   split at h
   ·rename_i off t a7
    split at h
    ·rename_i bH n Sq aeq aL
     split at h
     ·rename_i b o' ab;cases h;exact FL aQ aJ ah cc a7 aL ba (.inl ⟨_,_,ab,rfl⟩)
     ·rename_i cs o' ab;cases h;exact FL aQ aJ ah cc a7 aL ba (.inr (.inl ⟨_,_,ab,rfl⟩))
     ·rename_i b cs ab;cases h;exact FL aQ aJ ah cc a7 aL ba (.inr (.inr ⟨_,_,ab,rfl⟩))
     ·cases h
    ·cases h
   ·cases h
  ·cases h
 ·rename_i S x f ah
  split at h
  ·rename_i gG sz mN z cc
   split at h
   ·rename_i off t a7
    split at h
    ·rename_i i aL
     split at h
     ·rename_i cs ab;exact Sf aQ aJ ah cc a7 aL ab h
     ·cases h
    ·cases h
   ·cases h
  ·cases h
 ·rename_i t x ah
  split at h
  ·rename_i i aL
   split at h
   ·rename_i cs o' ab;exact KC aQ aJ ah aL ab h
   ·rename_i b cs ab;exact Sg aQ aJ ah aL ab h
   ·cases h
  ·cases h
 ·rename_i t x ah
  split at h
  ·cases h
  ·rename_i i FQ aL
   split at h
   ·rename_i u ab;cases h;exact Sh aQ aJ ah aL (fun b e=>by obtain ⟨dN,a2,a3,a4⟩:=i;simp only at e;subst e;exact FQ _ _ _ _ C) ab
   ·cases h
  ·cases h
 ·rename_i f first cap ah
  split at h
  ·rename_i zU ht U ad;cases h;exact Si aJ ah U ad
  ·cases h
 ·rename_i x ah
  split at h
  ·rename_i b o' ab;cases h;exact CE aJ ah ab (.inl ⟨_,_,rfl⟩)
  ·rename_i cs o' ab;cases h;exact CE aJ ah ab (.inr (.inl ⟨_,_,rfl⟩))
  ·rename_i b cs ab;cases h;exact CE aJ ah ab (.inr (.inr (.inl ⟨_,_,rfl⟩)))
  ·rename_i f zU ht ab;cases h;exact CE aJ ah ab (.inr (.inr (.inr ⟨_,_,_,rfl⟩)))
  ·cases h
 ·rename_i x CG t ok ah
  split at h
  ·cases h
  ·rename_i i FQ aL
   have CK:∀ b,i.bH ≠ .iface b:=fun b e=>by obtain ⟨dN,a2,a3,a4⟩:=i;simp only at e;subst e;exact FQ _ _ _ _ C
   split at h
   ·rename_i bK u ab
    split at h
    ·rename_i an;cases h;have:=ae0 an;subst this;exact CF aQ aJ ah aL CK ab (.inl ⟨u,rfl,rfl⟩)
    ·rename_i an;cases h;have:=ae0 an;subst this;exact CF aQ aJ ah aL CK ab (.inl ⟨_,rfl,rfl⟩)
    ·rename_i an
     split at h
     ·rename_i z bE;cases h
      exact CF aQ aJ ah aL CK ab (.inr ⟨rfl,.inr ⟨bK,u,(fun e=>by subst e;simp at an),rfl⟩,z,bE,rfl⟩)
     ·cases h
    ·cases h
   ·rename_i ab
    split at h
    ·split at h
     ·rename_i z bE;cases h
      exact CF aQ aJ ah aL CK ab (.inr ⟨rfl,.inl C,z,bE,rfl⟩)
     ·cases h
    ·cases h
   ·cases h
  ·cases h
 ·rename_i args argTypes ah
  split at h
  ·rename_i x t U ad
   have cd:args = #[x]:=by apply ap';simpa using U
   have b1:argTypes = #[t]:=by apply ap';simpa using ad
   subst cd;subst b1;split at h
   ·rename_i e sz mN z aL
    split at h
    ·rename_i sz' xs own ab;cases h;exact KD aQ aJ ah aL ab (.inl ⟨_,_,_,_,rfl,rfl,rfl⟩)
    ·cases h
   ·rename_i sz mN z aL
    split at h
    ·rename_i l ab;cases h;exact KD aQ aJ ah aL ab (.inr ⟨_,rfl,rfl,rfl⟩)
    ·cases h
   ·cases h
  ·cases h
 ·rename_i t x ah
  split at h
  ·rename_i u ab
   split at h
   ·rename_i cs aF;cases h;exact Sj aJ ah ab aF
   ·cases h
  ·cases h
 ·rename_i t parts ah
  split at h
  ·rename_i gG sz mN z aL
   split at h
   ·rename_i pl aZ ps gH bE pM
    split at h
    ·rename_i cs hE;cases h;exact Sk aQ aJ ah aL gH bE pM hE
    ·cases h
   ·cases h
  ·rename_i Kt jD sz mN z aL
   split at h
   ·rename_i aG aZ ps he bE pM
    split at h
    ·rename_i cs hE;cases h;exact Sn aQ aJ ah aL he bE pM hE
    ·cases h
   ·cases h
  ·cases h
 ·rename_i t len parts ah
  split at h
  ·rename_i e sz mN z aL
   split at h
   ·rename_i aG he
    split at h
    ·rename_i ux
     simp only [f9] at ux;split at h
     ·rename_i xs dg;cases h
      exact Sp aQ aJ ah aL he (ae0 ux.1) (ao4 ux.2.1) (ao4 ux.2.2) dg
     ·cases h
    ·cases h
   ·cases h
  ·cases h
 ·cases h
omit aJ aQ in
theorem KG {o:Oper} {v:af} (h:pL Γ o env=some v):gE o=true:=by
 unfold gE;cases ah:o.op<;>first|rfl|(unfold pL at h;rw [ah] at h;cases h)
omit aJ in
theorem a6.pL {o:Oper} {v:af} (h:Go.Proofs.YtnafpeohfbglmaaGreat.pL Γ o env=some v):a6 P N o env s (fun x ak=>x=v∧ak=s) (fun _ _=>False):=
 a6.ns (KG h) fun _ _ _ _ _ aJ=>KF aQ aJ h
omit aJ in
theorem fI.step {ops:Array Oper} {Q:b6→Env→al→Prop} {i:Nat} {l:List Nat} {o:Oper} {d:Nat} {v:af} (ah:ops[i]? = some o) (av:guardOf ops env o=some true)
  (ay:o.dst=some d) (aT:aa' d N=true) (au:Go.Proofs.YtnafpeohfbglmaaGreat.pL Γ o env=some v) (h:fI P N ops l Q ((d,v)::env) s):fI P N ops (i::l) Q env s:=
 fI.op ah av ay aT (a6.pL aQ au) (fun x ak ⟨U,ad⟩=>by subst U;subst ad;exact h) (fun _ _ h=>h.elim)
end
def al.set (s:al) (b:Nat) (o:dC):al:=fun aW=>if aW=b then some o else s aW
def al.del (s:al) (b:Nat):al:=fun aW=>if aW=b then none else s aW
theorem al.gk (s:al) (b:Nat) (o:dC):s.set b o b=some o:=by simp [al.set]
theorem al.fy (s:al) {b aW:Nat} (o:dC) (h:aW≠b):s.set b o aW=s aW:=by simp [al.set,h]
theorem al.nw (s:al) (b:Nat):s.del b b=none:=by simp [al.del]
theorem al.mO (s:al) {b aW:Nat} (h:aW≠b):s.del b aW=s aW:=by simp [al.del,h]
theorem al.uA {s:al} {b aW:Nat} {o:dC} (h:s.set b o aW=none):aW≠b∧s aW=none:=by
 unfold al.set at h;split at h
 ·cases h
 ·exact ⟨‹_›,h⟩
theorem al.vX (s:al) (b:Nat) (o:dC) (h:s b=none):al.Sub s (s.set b o):=fun aW=>by
 by_cases e:aW=b
 ·subst e;exact .inr h
 ·exact .inl (by rw [al.fy _ _ e])
theorem al.oU (s:al):al.Sub s s:=fun _ => .inl rfl
theorem al.Sub.trans {a b c:al} (h:al.Sub a b) (k:al.Sub b c):al.Sub a c:=fun x=>by
 rcases h x with e|e
 ·rcases k x with e'|e'
  ·exact .inl (e.trans e')
  ·exact .inr (e.trans e')
 ·exact .inr e
theorem al.zV (s:al) (b:Nat) (o:dC) (h:s b=none):(s.set b o).del b=s:=by
 funext aW;by_cases e:aW=b
 ·subst e;simp [al.del,h]
 ·simp [al.del,al.set,e]
theorem al.set_set (s:al) (b:Nat) (o o':dC):(s.set b o).set b o'=s.set b o':=by
 funext aW;by_cases e:aW=b<;>simp [al.set,e]
theorem qy.lt {w:World} {p:bU} {b:Nat} {o:dC} (h:qy w p b o):b<w.heap.size:=by
 cases o with
 | box t cs=>obtain ⟨vs,U,-⟩:=h;exact (t8.1 U).1
 | row t sz n=>obtain ⟨vs,U,-⟩:=h;exact (t8.1 U).1
 | map es=>obtain ⟨vs,c,U,-⟩:=h;exact (t8.1 U).1
 | ll es it l c=>obtain ⟨_,_,_,U,-⟩:=h;exact (t8.1 U).1
 | tick m=>obtain ⟨_,_,_,U⟩:=h;exact (t8.1 U).1
 | loop r env=>exact (t8.1 h.1).1
theorem rQ {w:World} {p:bU} {s:al} (cg:dq w p s) (o:Obj) (x:dC) (ab:∀ w':World,w'.heap[w.heap.size]? = some o→(∀ v y,Rel w p v y→Rel w' p v y)→(∀ vs ys,bJ w p vs ys→bJ w' p vs ys)→qy w' p w.heap.size x) :
  s w.heap.size=none∧dc w p (w.alloc o) p∧Kept s (s.set w.heap.size x) w p (w.alloc o) p∧dq (w.alloc o) p (s.set w.heap.size x):=by
 have az:s w.heap.size=none:=by
  cases h:s w.heap.size with
  | none=>rfl
  | some o'=>exact absurd (cg.obj _ _ h).lt ag
 have hle:dc w p (w.alloc o) p:=dc.of_heap C C C ba (fun _ _ h=>h) cg.lt (fun b an=>ml w o b an);refine ⟨az,hle,⟨fun b an _=>ml w o b an,fun b an ar=>by rw [al.fy _ _ ag];exact ar,fun _ _ _ _ h=>h⟩,?_⟩;have av:=cg.grow hle (fun b an=>ml w o b an) (fun _ _ _ h=>h) (fun b o aD=>by have:=cg.lt b o aD;simp;omega);refine ⟨fun b o' an=>?_,av.lt⟩;by_cases e:b=w.heap.size
 ·subst e
  rw [al.gk] at an;cases an;exact ab _ (uu w o) (fun _ _ h=>h.mono hle) (fun _ _ h=>h.mono hle)
 ·rw [al.fy _ _ e] at an
  exact av.obj b o' an
section
variable {P:Program} {Γ:cy} {N:Nat} {env:Env} {s:al}
theorem a6.ku {o:Oper} {K X:af→al→Prop} (ay:gE o=true)
  (h:∀ ro B a w p,dx N B ro env s a w p→∃ val w' ak bj x,(execOp a.eval o).run P w = .ok (.value val) w'∧dc w p w' bj∧Kept s ak w p w' bj∧dq w' bj ak∧K x ak∧Rel w' bj val x) :
  a6 P N o env s K X:=by
 refine ⟨ay,fun ro B a w p aJ=>?_⟩;obtain ⟨val,w',ak,bj,x,aC,U,ad,aj,a',bz⟩:=h ro B a w p aJ;rw [aC];exact ⟨ak,bj,U,ad,aj,x,a',bz⟩
theorem a6.FR {o:Oper} {K X:af→al→Prop} (ay:gE o=true)
  (h:∀ ro B a w p,dx N B ro env s a w p→∃ w' ak bj,(execOp a.eval o).run P w = .ok .skip w'∧dc w p w' bj∧Kept s ak w p w' bj∧dq w' bj ak∧K (.cu []) ak) :
  a6 P N o env s K X:=by
 refine ⟨ay,fun ro B a w p aJ=>?_⟩;obtain ⟨w',ak,bj,aC,U,ad,aj,a'⟩:=h ro B a w p aJ;rw [aC];exact ⟨ak,bj,U,ad,aj,_,a',FE⟩
theorem a6.alloc (aQ:bO P Γ) {o:Oper} {t:TypeId} {i:bN} {z:af} {cs:List af} (ah:o.op = .alloc t) (aL:Γ.get? t=some i) (bE:hD i.zero=some z) (aF:cellsOf z=some cs) {X:af→al→Prop} :
  a6 P N o env s (fun x ak=>∃ b,s b=none∧x = .ptr b 0∧ak=s.set b (.box t cs)) X:=by
 refine a6.ku (by simp [gE,ah]) fun ro B a w p aJ=>?_
 obtain ⟨info,d,U,ad,aj,a',bz,fG⟩:=aQ.parts aL
 obtain ⟨az,hle,aA,cg⟩:=rQ aJ.wf (.cells i.zero.cells t (0,0)) (.box t cs) (fun w' iK aC hg=>
  ⟨i.zero.cells,iK,hg _ _ (qA (qC bE) aF),fun o' aD=>absurd (aJ.wf.lt _ _ aD) ag⟩)
 refine ⟨.pointer (some ⟨w.heap.size,0,none⟩),_,_,p,_,?_,hle,aA,cg,⟨w.heap.size,az,rfl,rfl⟩,.ptr _ _⟩;unfold execOp;rw [ah];refine gS ?_;simp [Instr.alloc,zeroValue,typeInfo,U,fG,newVar,newRow]
theorem jE {w:World} {b:Nat} {vs:Array Value} {t:TypeId} {hf:Nat×Nat} (h:w.heap[b]? = some (.cells vs t hf)) (j:Nat):w.cell? ⟨b,j,none⟩=vs[j]?:=by
 simp [World.cell?,h]
theorem a6.uB (aQ:bO P Γ) {o:Oper} {t T:TypeId} {x:Operand} {i:bN} {b off:Nat} {cs:List af} {v:af} (ah:o.op = .load t x) (aL:Γ.get? t=some i) (ab:aK env x=some (.ptr b off))
  (ar:s b=some (.box T cs)) (h:hK i cs off=some v) {X:af→al→Prop}:a6 P N o env s (fun x ak=>x=v∧ak=s) X:=by
 refine a6.ku (by simp [gE,ah]) fun ro B a w p aJ=>?_
 have aC:=aJ.aK ab;generalize au:a.eval x=dQ at aC;cases aC;obtain ⟨vs,U,ad,aj⟩:=aJ.wf.obj _ _ ar;obtain ⟨val,cO,eT⟩:=zP aQ aL (b:=b) (base:=0) (vs:=vs.toList) (fun j u hu=>by rw [af8,jE U];simpa using hu) ad h;refine ⟨val,w,s,p,v,?_,.refl w p,.refl s w p,aJ.wf,⟨rfl,rfl⟩,eT⟩;unfold execOp;rw [ah];simp only [au];refine gS ?_;rw [af8] at cO;simp only [Instr.loadAt,Instr.sureAddr,ac',ae5,i5,cO]
theorem vY {w:World} {p:bU} (cg:dq w p s) {b:Nat} {T:TypeId} {cs:List af} (ar:s b=some (.box T cs)) {vs':Array Value} {cs':List af}
    (b':∀ vs,w.heap[b]? = some (.cells vs T (0,0))→vs'.size=vs.size) (aC:bJ w p vs'.toList cs') (w':World) (iK:w'=w.setRow b vs') :
    dc w p w' p∧Kept s (s.set b (.box T cs')) w p w' p∧dq w' p (s.set b (.box T cs')):=by
  subst iK;obtain ⟨vs,U,ad,aj⟩:=cg.obj _ _ ar;have aw:b<w.heap.size:=(t8.1 U).1;have dR:=setRow_heap w b vs vs' T (0,0) U;have hW:∀ k,k≠b→(w.setRow b vs').heap[k]? = w.heap[k]? := fun k aA=>setRow_other w b k vs' aA
  have hle:dc w p (w.setRow b vs') p:=by
    refine ⟨rfl,rfl,rfl,by simp,fun _ _ h=>h,fun aW o aD=>x7 (hW aW (fun e=>aj o (e ▸ aD))),fun aW x ab=>?_⟩;by_cases e:aW=b
    · subst e
      have Sr:=b' vs U;simp only [World.kQ,U,dR] at ab ⊢;rw [Sr];exact ab
    · rw [x6 (hW aW e)];exact ab
  refine ⟨hle,⟨fun aW an az=>hW aW (fun e=>by rw [e,ar] at az;simp at az),fun aW an az=>by
    rw [al.fy]
    · exact az
    · intro e;rw [e,ar] at az;simp at az,fun _ _ _ _ h=>h⟩,?_,fun aW o aD=>by simpa using cg.lt aW o aD⟩
  intro aW o' n2;by_cases e:aW=b
  · subst e
    rw [al.gk] at n2;cases n2;exact ⟨vs',dR,aC.mono hle,aj⟩
  · rw [al.fy _ _ e] at n2
    have ah:=cg.obj aW o' n2;have cY:=hW aW e;cases o' with
    | box t c=>obtain ⟨us,g1,g2,g3⟩:=ah;exact ⟨us,cY.trans g1,g2.mono hle,g3⟩
    | row t sz n=>obtain ⟨cur,g1,g2,g3,g4⟩:=ah;exact ⟨cur,cY.trans g1,g2,g3,g4⟩
    | map es=>obtain ⟨cN,c,g1,g2,g3⟩:=ah;exact ⟨cN,c,cY.trans g1,⟨g2.1.mono hle,g2.2.mono hle⟩,g3⟩
    | ll es it l c=>exact ah.qz hle cY (hW it (ah.zJ U ba))
    | tick m=>obtain ⟨dN,a2,a3,g1⟩:=ah;exact ⟨dN,a2,a3,cY.trans g1⟩
    | loop r env=>exact ⟨cY.trans ah.1,fun t v h=>(ah.2 t v h).mono hle⟩
def e7:af→Bool
 | .hC (.func _ _ _)=>true
 | .hC (.slice _ _ _)=>true
 | .any | .hC _ | .agg _ | .cu _=>false
 | _=>true
theorem FT {w:World} {p:bU} {v:Value} {x:af} (aC:Rel w p v x) (h:e7 x=true):v.oneCell'=true:=by
 cases aC with
 | hC v=>cases v<;>first|rfl|(simp [e7] at h;done)
 | _=>first|rfl|(simp [e7] at h;done)
theorem qE {w:World} {p:bU}:∀ {vs:List Value} {xs:List af},bJ w p vs xs→xs.all e7=true→∀ v∈vs,v.oneCell'=true:=by
 intro vs
 induction vs with
 | nil=>intro xs _ _ v au;cases au
 | cons u vs aX=>
  intro xs h aR v au;cases h with
  | cons _ x _ xs ab aL=>
  simp only [List.all_cons,f9] at aR;rcases af1.1 au with rfl|au
  ·exact FT ab aR.1
  ·exact aX aL aR.2 v au
theorem KH (off:Nat):∀ (cs xs:List af),off+cs.length≤xs.length→eS off cs xs=xs.take off++cs++xs.drop (off+cs.length):=by
 intro cs
 induction cs generalizing off with
 | nil=>intro xs h;simp [eS]
 | cons c cs aX=>
  intro xs h;simp only [eS,i0] at h ⊢;rw [aX (off+1) _ cP];have U:(xs.set off c).take (off+1)=xs.take off++[c]:=by
   rw [List.take_succ_eq_append_getElem cP];simp [List.take_set_of_le]
  have ad:(xs.set off c).drop (off+1+cs.length)=xs.drop (off+1+cs.length):=by
   rw [List.drop_set_of_lt ag]
  rw [U,ad];simp [an9,aq1 1]
theorem a6.CL (aQ:bO P Γ) {o:Oper} {t T:TypeId} {x y:Operand} {i:bN} {b off:Nat} {cs us:List af} {v:af} (ah:o.op = .store t x y) (aL:Γ.get? t=some i) (ab:aK env x=some (.ptr b off))
  (ax:aK env y=some v) (au:cellsOf v=some us) (hu:af2 us.length i.size=true) (Ss:us.all e7=true) (ar:s b=some (.box T cs)) (fz:ao5 (off+us.length) cs.length=true) {X:af→al→Prop} :
  a6 P N o env s (fun _ ak=>ak=s.set b (.box T (eS off us cs))) X:=by
 refine a6.FR (by simp [gE,ah]) fun ro B a w p aJ=>?_
 have aC:=aJ.aK ab;generalize ew:a.eval x=dQ at aC;cases aC;have fj:=aJ.aK ax;have nu:=qA fj au;obtain ⟨info,d,g1,g2,g3,g4,-⟩:=aQ.parts aL;obtain ⟨vs,U,ad,aj⟩:=aJ.wf.obj _ _ ar;have b':(a.eval y).cells.size=info.size:=by rw [g4,← ae0 hu,← nu.length,ae9]
 have St:=ao4 fz;have lQ:vs.size=cs.length:=by rw [← ad.length,ae9]
 have eY:(a.eval y).cells.toList.length=us.length:=nu.length;have hM:=run_storeCells_at P b off T (a.eval y).cells.toList 0 vs w U (by rw [eY];omega) (qE nu Ss);simp only [ao'] at hM;have eT:bJ w p (vs.toList.take off++(a.eval y).cells.toList++vs.toList.drop (off+(a.eval y).cells.toList.length)) (eS off us cs):=by
  rw [KH _ _ _ St,eY];exact ((ad.take off).append nu).append (ad.drop _)
 obtain ⟨cF,dj,fe⟩:=vY aJ.wf ar (vs':=(vs.toList.take off++(a.eval y).cells.toList++vs.toList.drop (off+(a.eval y).cells.toList.length)).toArray) (fun vZ CM=>by
  rw [U] at CM;cases CM
  simp only [an3,f8,ae8,ai5,eY,ae9];omega) (by simpa using eT) _ C
 refine ⟨_,_,p,?_,cF,dj,fe,rfl⟩;unfold execOp;rw [ah];simp only [ew];simp only [Instr.storeAt,Instr.sureAddr,storeVar,sizeOf,typeInfo,ac',ae5,i5,run_program,g1,b',ne_eq,not_true_eq_false,ah9];rw [hM];rfl
theorem dx.freeze {B:fO} {ro:Option Nat} {a:Act} {w:World} {p:bU} (h:dx N B ro env s a w p) {t b:Nat} {T:TypeId} {cs:List af} (aL:env.get? t=some (.ptr b 0)) (ar:s b=some (.box T cs)) :
  ∃ bj,dx N B ro ((t,.br cs 0)::env) (s.del b) a w bj∧dc w p w bj∧Kept s (s.del b) w p w bj:=by
 obtain ⟨vs,U,ad,aj⟩:=h.wf.obj _ _ ar;have aw:b<w.heap.size:=(t8.1 U).1;have hle:dc w p w (p.ea b True):=⟨rfl,rfl,rfl,g9 _,fun _ _ h => .inl h,fun _ _ _=>rfl,fun _ _ h=>h⟩
 have aA:Kept s (s.del b) w p w (p.ea b True):=⟨fun _ _ _=>rfl,fun aW an az=>by
  by_cases e:aW=b
  ·subst e;exact al.nw _ _
  ·rw [al.mO _ e];exact az,fun aW o an az aD=>by
   rcases aD with aD|⟨rfl,_⟩
   ·exact aD
   ·rw [ar] at az;cases az⟩
 have cg:dq w (p.ea b True) (s.del b):=by
  refine ⟨fun aW o an=>?_,fun aW o aD=>by rcases aD with aD|⟨rfl,_⟩;exact h.wf.lt _ _ aD;exact aw⟩;by_cases e:aW=b
  ·subst e;rw [al.nw] at an;cases an
  ·rw [al.mO _ e] at an
   have ah:=h.wf.obj aW o an;have fa:∀ o,p.ea b True aW o↔p aW o:=fun o=>⟨fun aD=>by rcases aD with aD|⟨e',_⟩;exact aD;exact absurd e' e,.inl⟩
   cases o with
   | box t c=>obtain ⟨us,g1,g2,g3⟩:=ah;exact ⟨us,g1,g2.mono hle,fun o aD=>g3 o ((fa o).1 aD)⟩
   | row t sz n=>obtain ⟨cur,g1,g2,g3,g4⟩:=ah;exact ⟨cur,g1,g2,g3,fun o=>(fa o).trans (g4 o)⟩
   | map es=>obtain ⟨cN,c,g1,g2,g3⟩:=ah;exact ⟨cN,c,g1,⟨g2.1.mono hle,g2.2.mono hle⟩,g3⟩
   | ll es it l c=>exact ah.qz hle C C
   | tick m=>exact ah
   | loop r env=>exact ⟨ah.1,fun t v h=>(ah.2 t v h).mono hle⟩
 have aJ:=h.step hle aA cg;refine ⟨_,⟨aJ.size,fun bK v au=>?_,aJ.wf,aJ.defs,aJ.round,aJ.base⟩,hle,aA⟩;simp only [Env.get?] at au;split at au
 ·rename_i he
  have:=ae0 he;subst this;cases au;have aC:=h.env t _ aL;generalize a.tmps.getD t undef=dQ at aC;cases aC;refine .br b 0 0 0 vs.toList cs C ?_ (ad.mono hle);intro i v aN;refine ⟨.inr ⟨rfl,trivial⟩,?_⟩;rw [af8,jE U];simpa using aN
 ·exact aJ.env bK v au
theorem fI.freeze {ops:Array Oper} {Q:b6→Env→al→Prop} {l:List Nat} (t b:Nat) {T:TypeId} {cs:List af} (aL:env.get? t=some (.ptr b 0)) (ar:s b=some (.box T cs))
  (h:fI P N ops l Q ((t,.br cs 0)::env) (s.del b)):fI P N ops l Q env s:=by
 intro ro B a w p aJ;obtain ⟨bj,hM,hle,aA⟩:=aJ.freeze aL ar;exact fI.after hle aA h hM
theorem ae.freeze {Q:b6→Env→al→Prop} {c:Code} (t b:Nat) {T:TypeId} {cs:List af} (aL:env.get? t=some (.ptr b 0)) (ar:s b=some (.box T cs))
  (h:ae P N c Q ((t,.br cs 0)::env) (s.del b)):ae P N c Q env s:=by
 intro hf B a w p eZ aJ;obtain ⟨bj,hM,hle,aA⟩:=aJ.freeze aL ar;exact mh (h hf B a w bj eZ hM) fun _ _ _ q=>q.after hle aA
end
def j9:af→af→Option Bool
 | .str a,.str b=>some (a==b)
 | .int k a,.int k' b=>if k=k' then some (a==b) else none
 | .bool a,.bool b=>some (a==b)
 | _,_=>none
def j':sX→af→Bool
 | .str,.str _=>true
 | .int _,.int _ _=>true
 | .bool,.bool _=>true
 | _,_=>false
def iX:List (af×af)→af→Option (Option af)
  | [],_=>some none
  | (k',v)::r,k=>match j9 k k' with
    | some true=>some (some v)
    | some false=>iX r k
    | none=>none
def lR:List (af×af)→af→af→Option (List (af×af))
  | [],k,v=>some [(k,v)]
  | (k',fx)::r,k,v=>match j9 k k' with
    | some true=>some ((k,v)::r)
    | some false=>match lR r k v with
      | some r'=>some ((k',fx)::r')
      | none=>none
    | none=>none
theorem KI (a b:ByteArray):(a==b)=(a.data.toList==b.data.toList):=by
 cases a with|mk x=>cases b with|mk y=>
 show (ByteArray.beq ⟨x⟩ ⟨y⟩)=_;unfold ByteArray.beq;simp
theorem CN {w:World} {p:bU} {d:TypeDesc} {hN zW:Value} {k k':af} {b:Bool} (U:Rel w p hN k) (ad:Rel w p zW k') (a7:j' (ev d) k=true) (h:j9 k k'=some b) :
  Instr.sameNow d hN zW=some b:=by
 unfold j9 at h;split at h
 ·cases U with|str a _ e=>cases ad with|str c8 _ e'=>
  cases d<;>simp [ev,j'] at a7
  cases h;simp [Instr.sameNow,KI,e,e']
 ·cases U;cases ad
  cases d<;>simp [ev,j'] at a7
  split at h
  ·cases h;rename_i aA;subst aA;simp [Instr.sameNow]
  ·cases h
 ·cases U;cases ad
  cases d<;>simp [ev,j'] at a7
  cases h;simp [Instr.sameNow]
 ·cases h
theorem Su {w:World} {p:bU} {hN zW:Value} {k k':af} (U:Rel w p hN k) (ad:Rel w p zW k') (h:j9 k k'=some true):Instr.sameBits 10000 zW hN=true:=by
 unfold j9 at h;split at h
 ·cases U with|str a _ e=>cases ad with|str c8 _ e'=>
  have h:=beq_iff_eq.1 (al'.inj h);show (c8==a)=true;rw [KI,e,e',h];simp
 ·rename_i k a k' b
  cases U;cases ad;split at h
  ·rename_i aA
   subst aA;have h:=beq_iff_eq.1 (al'.inj h);show (k==k&&b==a)=true;rw [h];simp
  ·cases h
 ·rename_i a b
  cases U;cases ad;have h:=beq_iff_eq.1 (al'.inj h);show (b==a)=true;rw [h];simp
 ·cases h
theorem Sv {w:World} {p:bU} {d:TypeDesc} {hN:Value} {k:af} (aA:Rel w p hN k) (a7:j' (ev d) k=true):∀ (cN:List MapEntry) (es:List (af×af)) (i:Nat) (r:Option af),
  lM w p cN es→iX es k=some r →
  match r with
  | none=>Instr.findNow d hN cN i=some none
  | some v=>∃ j val,Instr.findNow d hN cN i=some (some (j,val))∧Rel w p val v:=by
 intro cN
 induction cN with
 | nil=>
  intro es i r aC h;cases es with
  | nil=>cases h;rfl
  | cons e es=>exact absurd aC.1.length ba
 | cons m cN aX=>
  intro es i r aC h;cases es with
  | nil=>exact absurd aC.1.length ba
  | cons e es=>
   obtain ⟨k',fx⟩:=e;obtain ⟨ya,s4⟩:=aC;cases ya with|cons _ _ _ _ eF s5=>cases s4 with|cons _ _ _ _ oV qF=>
   simp only [iX] at h;split at h
   ·rename_i he
    cases h;exact ⟨i,m.val,by simp only [Instr.findNow,CN aA eF a7 he],oV⟩
   ·rename_i he
    have:=aX es (i+1) r ⟨s5,qF⟩ h;have ar:=CN aA eF a7 he;cases r with
    | none=>simp only [Instr.findNow,ar];exact this
    | some v=>obtain ⟨j,val,U,ad⟩:=this;exact ⟨j,val,by simp only [Instr.findNow,ar];exact U,ad⟩
   ·cases h
theorem Sw {w:World} {p:bU} {d:TypeDesc} {hN vv:Value} {k v:af} (aA:Rel w p hN k) (au:Rel w p vv v) (a7:j' (ev d) k=true):∀ (cN:List MapEntry) (es du:List (af×af)) (i:Nat),
  lM w p cN es→lR es k v=some du →
  (Instr.findNow d hN cN i=some none∧∀ n,lM w p (cN++[{ key:=hN,val:=vv,born:=n }]) du) ∨
  (∃ j val e,Instr.findNow d hN cN i=some (some (i+j,val))∧cN[j]? = some e∧Instr.sameBits 10000 e.key hN=true∧lM w p (cN.modify j fun e=>{ e with key:=hN,val:=vv }) du):=by
 intro cN
 induction cN with
 | nil=>
  intro es du i aC h;cases es with
  | nil=>cases h;exact .inl ⟨rfl,fun n=>⟨.cons _ _ _ _ aA .nil,.cons _ _ _ _ au .nil⟩⟩
  | cons e es=>exact absurd aC.1.length ba
 | cons m cN aX=>
  intro es du i aC h;cases es with
  | nil=>exact absurd aC.1.length ba
  | cons e es=>
   obtain ⟨k',fx⟩:=e;obtain ⟨ya,s4⟩:=aC;cases ya with|cons _ _ _ _ eF s5=>cases s4 with|cons _ _ _ _ oV qF=>
   simp only [lR] at h;split at h
   ·rename_i he
    cases h;refine .inr ⟨0,m.val,m,by simp only [Instr.findNow,CN aA eF a7 he,ao'],rfl,Su aA eF he,?_⟩;exact ⟨.cons _ _ _ _ aA s5,.cons _ _ _ _ au qF⟩
   ·rename_i he
    split at h
    ·rename_i r' jj
     cases h;have ar:=CN aA eF a7 he;rcases aX es r' (i+1) ⟨s5,qF⟩ jj with ⟨U,ad⟩|⟨j,val,e',U,ad,aj,a'⟩
     ·exact .inl ⟨by simp only [Instr.findNow,ar];exact U,fun n=>⟨.cons _ _ _ _ eF (ad n).1,.cons _ _ _ _ oV (ad n).2⟩⟩
     ·refine .inr ⟨j+1,val,e',by simp only [Instr.findNow,ar];rw [U];congr 3;omega,by simpa using ad,aj,?_⟩
      simp only [List.modify_succ_cons];exact ⟨.cons _ _ _ _ eF a'.1,.cons _ _ _ _ oV a'.2⟩
    ·cases h
   ·cases h
section
variable {P:Program} {Γ:cy} {N:Nat} {env:Env} {s:al}
theorem run_checkKey {d:TypeDesc} {t:TypeId} {hN:Value} {k:af} {w:World} {p:bU} (hu:P.underlying t=some d) (aA:Rel w p hN k) (a7:j' (ev d) k=true) (e:Bool) :
  (Instr.checkKey e 10000 t hN).run P w = .ok () w:=by
 have:∀ n,(Instr.checkKey e (n+1) t hN).run P w = .ok () w:=by
  intro n;unfold Instr.checkKey;simp only [ac',run_underlying hu,i5];cases aA<;>simp [j'] at a7<;>cases d<;>simp [ev] at a7<;>rfl
 exact this 9999
theorem run_findKey {d:TypeDesc} {t:TypeId} {hN:Value} {es:List MapEntry} {r:Option (Nat×Value)} {w:World} (hu:P.underlying t=some d) (h:Instr.findNow d hN es 0=some r) :
  (Instr.findKey t hN es).run P w = .ok r w:=by
 unfold Instr.findKey;simp only [ac',run_underlying hu,i5,h,ae5]
def CO:Obj→Bool
 | .cells .. => false
 | _=>true
theorem yb {w:World} {r:Nat} {o:Obj} (h:w.heap[r]? = some o) (aF:CO o=true):(getObj r).run P w = .ok o w:=by
 cases o<;>first|(simp [CO] at aF;done)|simp [getObj,aw5,h]
def lS (ok:Bool) (zero:af):Option af→af
 | some v=>if ok then .cu [v,.bool true] else v
 | none=>if ok then .cu [zero,.bool false] else zero
theorem a6.lookup (aQ:bO P Γ) {o:Oper} {t dS e0:TypeId} {x y:Operand} {ok:Bool} {it gI aG:bN} {m:af} {es:List (af×af)} {k z:af} {r:Option af} (ah:o.op = .lookup t x y ok)
  (aL:Γ.get? t=some it) (bq:it.bH = .map dS e0) (jk:Γ.get? dS=some gI) (bL:Γ.get? e0=some aG) (ab:aK env x=some m) (ax:aK env y=some k)
  (hm:(∃ b,m = .map b∧s b=some (.map es))∨(m = .sV∧es=[])) (a7:j' gI.bH k=true) (av:iX es k=some r) (bE:hD aG.zero=some z) {X:af→al→Prop} :
  a6 P N o env s (fun x ak=>x=lS ok z r∧ak=s) X:=by
 refine a6.ku (by simp [gE,ah]) fun ro B a w p aJ=>?_
 obtain ⟨info,d,U,ad,aj,-⟩:=aQ.parts aL;obtain ⟨Sx,yc,lO,hL,s6,-⟩:=aQ.parts jk;obtain ⟨jO,kv,FU,zX,Sy,-,-,FV⟩:=aQ.parts bL;have ay:d = .map dS e0:=by rw [bq] at aj;cases d<;>simp [ev] at aj;rw [aj.1,aj.2]
 subst ay;have aC:=aJ.aK ab;have kx:=aJ.aK ax;generalize ew:a.eval x=dQ at aC;generalize ff:a.eval y=fY at kx;rw [← s6] at a7;have FW:(zeroValue e0).run P w = .ok aG.zero w:=by simp [zeroValue,typeInfo,FU,FV]
 have tail:∀ cN:Array MapEntry,lM w p cN.toList es→∃ val,(do
   Instr.checkKey cN.isEmpty 10000 dS fY
   let (v,Sz) ← match ← Instr.findKey dS fY cN.toList with
    | some (_,v)=>pure (v,true)
    | none=>do pure (← zeroValue e0,false)
   pure (if ok then .tuple #[v,.bool Sz] else v):Sem Value).run P w = .ok val w∧Rel w p val (lS ok z r):=by
  intro cN FX;have ka:=Sv kx a7 cN.toList es 0 r FX av;simp only [ac',run_checkKey hL kx a7,i5];cases r with
  | none=>
   simp only at ka;simp only [run_findKey hL ka,i5,ac',FW,ae5,lS];cases ok
   ·exact ⟨_,rfl,qC bE⟩
   ·exact ⟨_,rfl,.cu _ _ (.cons _ _ _ _ (qC bE) (.cons _ _ _ _ (.bool _) .nil))⟩
  | some v=>
   obtain ⟨j,val,g1,g2⟩:=ka;simp only [run_findKey hL g1,i5,ae5,lS];cases ok
   ·exact ⟨_,rfl,g2⟩
   ·exact ⟨_,rfl,.cu _ _ (.cons _ _ _ _ g2 (.cons _ _ _ _ (.bool _) .nil))⟩
 have FY:∃ val,(Instr.lookup t dQ fY ok).run P w = .ok val w∧Rel w p val (lS ok z r):=by
  unfold Instr.lookup;rcases hm with ⟨b,rfl,ar⟩|⟨rfl,rfl⟩
  ·cases aC
   obtain ⟨cN,clock,g1,g2,-⟩:=aJ.wf.obj _ _ ar;obtain ⟨val,cO,eT⟩:=tail cN g2;refine ⟨val,?_,eT⟩;simp only [ac',run_underlying ad,i5,yb g1 C,ae5] at cO ⊢;exact cO
  ·cases aC
   obtain ⟨val,cO,eT⟩:=tail #[] ⟨.nil,.nil⟩;refine ⟨val,?_,eT⟩;simp only [ac',run_underlying ad,i5,ae5] at cO ⊢;exact cO
 obtain ⟨val,cO,eT⟩:=FY;refine ⟨val,w,s,p,_,?_,.refl w p,.refl s w p,aJ.wf,⟨rfl,rfl⟩,eT⟩;unfold execOp;rw [ah];simp only [ew,ff];exact gS cO
theorem FZ {w:World} {p:bU} (cg:dq w p s) {b:Nat} {es:List (af×af)} (ar:s b=some (.map es)) {mes':Array MapEntry} {clock':Nat} {du:List (af×af)}
    (aC:lM w p mes'.toList du) (an:∀ e∈mes'.toList,e.born<clock') (eM:(mes'.toList.map (·.born)).Nodup)
    (w':World) (iK:w'={ w with heap:=w.heap.setIfInBounds b (.map mes' clock') }) :
    dc w p w' p∧Kept s (s.set b (.map du)) w p w' p∧dq w' p (s.set b (.map du)):=by
  subst iK;obtain ⟨cN,clock,U,ad,aj,a'⟩:=cg.obj _ _ ar;have aw:b<w.heap.size:=(t8.1 U).1;have dR:(w.heap.setIfInBounds b (.map mes' clock'))[b]? = some (.map mes' clock'):=by simp [ag9,aw]
  have hW:∀ k,k≠b→(w.heap.setIfInBounds b (.map mes' clock'))[k]? = w.heap[k]? := fun k aA=>by
    rw [ag9,d9 (fun e=>aA e.symm)]
  have hle:dc w p { w with heap:=w.heap.setIfInBounds b (.map mes' clock') } p:=by
    refine ⟨rfl,rfl,rfl,by simp,fun _ _ h=>h,fun aW o aD=>?_,fun aW x ab=>?_⟩
    · by_cases e:aW=b
      · subst e;simp only [World.cell?,U,dR]
      · exact x7 (hW aW e)
    · by_cases e:aW=b
      · subst e;simp [World.kQ,U] at ab
      · rw [x6 (hW aW e)];exact ab
  refine ⟨hle,⟨fun aW an az=>hW aW (fun e=>by rw [e,ar] at az;simp at az),fun aW an az=>by
    rw [al.fy]
    · exact az
    · intro e;rw [e,ar] at az;simp at az,fun _ _ _ _ h=>h⟩,?_,fun aW o aD=>by simpa using cg.lt aW o aD⟩
  intro aW o' n2;by_cases e:aW=b
  · subst e
    rw [al.gk] at n2;cases n2;exact ⟨mes',clock',dR,⟨aC.1.mono hle,aC.2.mono hle⟩,an,eM⟩
  · rw [al.fy _ _ e] at n2
    have ah:=cg.obj aW o' n2;have cY:=hW aW e;cases o' with
    | box t c=>obtain ⟨us,g1,g2,g3⟩:=ah;exact ⟨us,cY.trans g1,g2.mono hle,g3⟩
    | row t sz n=>obtain ⟨cur,g1,g2,g3,g4⟩:=ah;exact ⟨cur,cY.trans g1,g2,g3,g4⟩
    | map es=>obtain ⟨cN,c,g1,g2,g3⟩:=ah;exact ⟨cN,c,cY.trans g1,⟨g2.1.mono hle,g2.2.mono hle⟩,g3⟩
    | ll es it l c=>exact ah.qz hle cY (hW it (ah.zJ U ba))
    | tick m=>obtain ⟨dN,a2,a3,g1⟩:=ah;exact ⟨dN,a2,a3,cY.trans g1⟩
    | loop r env=>exact ⟨cY.trans ah.1,fun t v h=>(ah.2 t v h).mono hle⟩
theorem SA {t dS e0:TypeId} {yc:TypeDesc} {b:Nat} {cN:Array MapEntry} {clock:Nat} {hN vv:Value} {k:af} {w:World} {p:bU}
  (ad:P.underlying t=some (.map dS e0)) (hL:P.underlying dS=some yc) (kx:Rel w p hN k) (a7:j' (ev yc) k=true) (g1:w.heap[b]? = some (.map cN clock)) :
  (∀ (h:Instr.findNow yc hN cN.toList 0=some none),(Instr.mapUpdate t (.map (some b)) hN vv).run P w = .ok () { w with heap:=w.heap.setIfInBounds b (.map (cN.push { key:=hN,val:=vv,born:=clock }) (clock+1)) }) ∧
  (∀ j val e,Instr.findNow yc hN cN.toList 0=some (some (j,val))→cN[j]? = some e→Instr.sameBits 10000 e.key hN=true →
   (Instr.mapUpdate t (.map (some b)) hN vv).run P w = .ok () { w with heap:=w.heap.setIfInBounds b (.map (cN.modify j fun e=>{ e with key:=hN,val:=vv }) clock) }):=by
 constructor
 ·intro h
  unfold Instr.mapUpdate;simp only [ac',run_underlying ad,i5,yb g1 C,run_checkKey hL kx a7,run_findKey hL h];simp [setObj,aw5,g1]
 ·intro j val e h he an
  unfold Instr.mapUpdate;simp only [ac',run_underlying ad,i5,yb g1 C,run_checkKey hL kx a7,run_findKey hL h];simp [Instr.keyThatStays,he,an,setObj,aw5,g1]
theorem a6.mapUpdate (aQ:bO P Γ) {o:Oper} {t dS e0:TypeId} {x y z:Operand} {it gI:bN} {b:Nat} {es du:List (af×af)} {k v:af} (ah:o.op = .mapUpdate t x y z∨o.op = .insert t x y z)
    (aL:Γ.get? t=some it) (bq:it.bH = .map dS e0) (jk:Γ.get? dS=some gI) (ab:aK env x=some (.map b)) (ax:aK env y=some k) (bE:aK env z=some v)
    (ar:s b=some (.map es)) (a7:j' gI.bH k=true) (aD:lR es k v=some du) {X:af→al→Prop} :
    a6 P N o env s (fun _ ak=>ak=s.set b (.map du)) X:=by
  refine a6.FR (by rcases ah with ah|ah<;>simp [gE,ah]) fun ro B a w p aJ=>?_
  obtain ⟨info,d,U,ad,aj,-⟩:=aQ.parts aL;obtain ⟨Sx,yc,lO,hL,s6,-⟩:=aQ.parts jk;have ay:d = .map dS e0:=by rw [bq] at aj;cases d<;>simp [ev] at aj;rw [aj.1,aj.2]
  subst ay;rw [← s6] at a7;have aC:=aJ.aK ab;have kx:=aJ.aK ax;have F0:=aJ.aK bE;obtain ⟨cN,clock,g1,g2,g3,g4⟩:=aJ.wf.obj _ _ ar;generalize ew:a.eval x=dQ at aC;cases aC;obtain ⟨fr,gx⟩:=SA (vv:=a.eval z) ad hL kx a7 g1;have cO:∀ w',(Instr.mapUpdate t (.map (some b)) (a.eval y) (a.eval z)).run P w = .ok () w'→(execOp a.eval o).run P w = .ok .skip w':=by
    intro w' hw;unfold execOp;rcases ah with ah|ah<;>rw [ah]<;>simp only [ew]<;>simp only [ac',hw,i5,ae5]
  rcases Sw kx F0 a7 cN.toList es du 0 g2 aD with ⟨dT,dh⟩|⟨j,val,e,dT,dh,dJ,mP⟩
  · obtain ⟨cF,dj,fe⟩:=FZ aJ.wf ar (mes':=cN.push { key:=a.eval y,val:=a.eval z,born:=clock }) (clock':=clock+1) (by simpa using dh clock)
      (by intro e he;simp only [as9,ae4,t6] at he;rcases he with he|rfl;have:=g3 e he;omega;simp)
      (by
        simp only [as9,List.map_append,ae2,ah2]
        rw [List.nodup_append]
        refine ⟨g4,by simp,?_⟩
        intro x ab y ax e
        simp only [t6] at ax
        obtain ⟨m,hm,rfl⟩:=ag0.1 ab
        have:=g3 m hm
        omega) _ C
    exact ⟨_,_,p,cO _ (fr dT),cF,dj,fe,rfl⟩
  · rw [af8] at dT
    have s7:((cN.modify j fun e=>{ e with key:=a.eval y,val:=a.eval z }).toList.map (·.born))=cN.toList.map (·.born):=by
      rw [Array.toList_modify];apply List.ext_getElem?;intro n;simp only [af3,List.getElem?_modify];split
      · cases cN.toList[n]? <;> rfl
      · cases cN.toList[n]? <;> rfl
    obtain ⟨cF,dj,fe⟩:=FZ aJ.wf ar (mes':=cN.modify j fun e=>{ e with key:=a.eval y,val:=a.eval z }) (clock':=clock) (by simpa using mP)
      (by
        intro e he
        have:e.born∈((cN.modify j fun e=>{ e with key:=a.eval y,val:=a.eval z }).toList.map (·.born)):=ag0.2 ⟨e,he,rfl⟩
        rw [s7] at this
        obtain ⟨e',vM,an⟩:=ag0.1 this
        rw [← an];exact g3 e' vM)
      (by rw [s7];exact g4) _ C
    exact ⟨_,_,p,cO _ (gx j val e dT (by simpa using dh) dJ),cF,dj,fe,rfl⟩
theorem a6.makeMap {o:Oper} {t:TypeId} (ah:o.op = .makeMap t none) {X:af→al→Prop}:a6 P N o env s (fun x ak=>∃ b,s b=none∧x = .map b∧ak=s.set b (.map [])) X:=by
 refine a6.ku (by simp [gE,ah]) fun ro B a w p aJ=>?_
 obtain ⟨az,hle,aA,cg⟩:=rQ aJ.wf (.map #[] 0) (.map []) (fun w' iK aC hg=>⟨#[],0,iK,⟨.nil,.nil⟩,by simp,by simp⟩);refine ⟨.map (some w.heap.size),_,_,p,_,?_,hle,aA,cg,⟨w.heap.size,az,rfl,rfl⟩,.map _⟩;unfold execOp;rw [ah];exact gS C
end
theorem v7 {vs:List Value} {sz:Nat} (h:∀ v∈vs,v.cells.size=sz):(flat vs).length=vs.length*sz:=by
 induction vs with
 | nil=>simp [flat]
 | cons v vs aX=>
  have eL:=aX (fun u hu=>h u (i6 _ hu));simp only [flat,aj9,f8,ae9,i0] at eL ⊢;rw [h v (i8 ..)];have SB:(aD5 (fun v=>v.cells.toList) vs).length=vs.length*sz:=eL;rw [SB,ak5];omega
theorem F1 (vs us:List Value):flat (vs++us)=flat vs++flat us:=by simp [flat,List.flatMap_append]
theorem SC {w:World} {p:bU} {s:al} (cg:dq w p s) {vs:List Value} {xs:List af} {sz cap:Nat} {e:TypeId} {cur:Array Value} (aC:bJ w p vs xs)
    (ar:∀ v∈vs,v.cells.size=sz) (oW:cur.size=cap*sz) (v8:cur.toList.take (xs.length*sz)=flat vs) (ky:xs.length≤cap) (hm:xs.length≤9223372036854775807) :
    ∃ bj,s w.heap.size=none∧dc w p (w.drew.alloc (.cells cur e)) bj∧Kept s (s.set w.heap.size (.row e sz xs.length)) w p (w.drew.alloc (.cells cur e)) bj ∧
      dq (w.drew.alloc (.cells cur e)) bj (s.set w.heap.size (.row e sz xs.length))∧Rel (w.drew.alloc (.cells cur e)) bj (.slice (some ⟨w.heap.size,0,none⟩) xs.length cap) (.aB sz xs (.own w.heap.size)):=by
  have az:s w.heap.size=none:=by
    cases h:s w.heap.size with
    | none=>rfl
    | some o'=>exact absurd (cg.obj _ _ h).lt ag
  let bj:bU:=fun b o=>p b o∨(b=w.heap.size∧o<xs.length*sz)
  have oX:(w.drew.alloc (.cells cur e)).heap[w.heap.size]? = some (.cells cur e):=uu w.drew _;have hold:∀ b,b<w.heap.size→(w.drew.alloc (.cells cur e)).heap[b]? = w.heap[b]? := fun b an=>ml w.drew _ b an
  have hle:dc w p (w.drew.alloc (.cells cur e)) bj:=dc.of_heap C C C ba (fun _ _ h => .inl h) cg.lt hold;have hlen:=v7 ar;have hmul:xs.length*sz≤cap*sz:=am8 _ ky;refine ⟨bj,az,hle,⟨fun b an _=>hold b an,fun b an ar=>by rw [al.fy _ _ ag];exact ar,fun b o an _ aD=>by rcases aD with aD|⟨rfl,_⟩;exact aD;omega⟩,?_,?_⟩
  · have av:dq (w.drew.alloc (.cells cur e)) bj s:=cg.grow hle hold (fun b o an aD=>by rcases aD with aD|⟨rfl,_⟩;exact aD;omega) (fun b o aD=>by
      rcases aD with aD|⟨rfl,_⟩
      · have:=cg.lt b o aD;simp;omega
      · simp)
    refine ⟨fun b o an=>?_,av.lt⟩;by_cases e':b=w.heap.size
    · subst e'
      rw [al.gk] at an;cases an;refine ⟨cur,oX,by omega,⟨cap,oW⟩,fun o=>⟨fun aD=>?_,fun ah => .inr ⟨rfl,ah⟩⟩⟩;rcases aD with aD|⟨_,ah⟩
      · exact absurd (cg.lt _ _ aD) ag
      · exact ah
    · rw [al.fy _ _ e'] at an;exact av.obj b o an
  · refine .aB _ 0 _ _ _ vs _ _ ba rfl ?_ (aC.mono hle) ar hm ky (fun h=>by cases h) (fun b an=>?_)
    · intro i v au
      have aN:i<xs.length*sz:=by
        have:=(t7.1 au).1;rw [hlen,aC.length] at this;exact this
      refine ⟨.inr ⟨rfl,by omega⟩,?_⟩;rw [af8,jE oX];rw [← v8,ai2,g6 aN] at au;simpa using au
    · cases an
      exact ⟨rfl,rfl,e,by simp only [World.kQ,oX,oW]⟩
theorem SD {w:World} {p:bU} {s:al} (cg:dq w p s) {b:Nat} {e:TypeId} {sz n cap:Nat} (v':s b=some (.row e sz n)) {cur:Array Value} (jC:w.heap[b]? = some (.cells cur e (0,0)))
  (oW:cur.size=cap*sz) {vs us:List Value} {xs ys:List af} (az:n=xs.length) (aC:bJ w p vs xs) (hu:bJ w p us ys) (ar:∀ v∈vs,v.cells.size=sz) (kV:∀ v∈us,v.cells.size=sz)
  (v8:cur.toList.take (n*sz)=flat vs) (ky:n+us.length≤cap) (hm:n+us.length≤9223372036854775807) :
  ∃ bj,dc w p (w.setRow b (cur.toList.take (n*sz)++flat us++cur.toList.drop (n*sz+(flat us).length)).toArray) bj ∧
   Kept s ((s.del b).set b (.row e sz (n+us.length))) w p (w.setRow b (cur.toList.take (n*sz)++flat us++cur.toList.drop (n*sz+(flat us).length)).toArray) bj ∧
   dq (w.setRow b (cur.toList.take (n*sz)++flat us++cur.toList.drop (n*sz+(flat us).length)).toArray) bj ((s.del b).set b (.row e sz (n+us.length))) ∧
   Rel (w.setRow b (cur.toList.take (n*sz)++flat us++cur.toList.drop (n*sz+(flat us).length)).toArray) bj (.slice (some ⟨b,0,none⟩) (n+us.length) cap) (.aB sz (xs++ys) (.own b)):=by
 obtain ⟨ac8,U,ad,aj,a'⟩:=cg.obj _ _ v';rw [jC] at U;cases U;have kc:=v7 kV;have fs:=v7 ar;have hmul:n*sz+us.length*sz≤cap*sz:=by rw [← ak5];exact am8 _ ky
 generalize zY:(cur.toList.take (n*sz)++flat us++cur.toList.drop (n*sz+(flat us).length)).toArray=new;have n3:new.toList=cur.toList.take (n*sz)++flat us++cur.toList.drop (n*sz+(flat us).length):=by rw [← zY]
 have cj:cur.toList.length=cap*sz:=by rw [ae9,oW]
 have CP:new.size=cur.size:=by rw [← ae9,n3];simp only [f8,ae8,ai5,kc,cj,oW];omega
 have aw:b<w.heap.size:=(t8.1 jC).1;have dR:=setRow_heap w b cur new e (0,0) jC;have hW:∀ k,k≠b→(w.setRow b new).heap[k]? = w.heap[k]? := fun k aA=>setRow_other w b k new aA
 have pN:∀ o,o<n*sz→new[o]? = cur[o]? := fun o ah=>by
  have:new.toList[o]? = cur.toList[o]?:=by
   rw [n3,af9,af' x1,ai2,g6 ah]
  simpa using this
 let bj:bU:=fun aW o=>p aW o∨(aW=b∧o<(n+us.length)*sz)
 have hle:dc w p (w.setRow b new) bj:=by
  refine ⟨rfl,rfl,rfl,by simp,fun _ _ h => .inl h,fun aW o aD=>?_,fun aW x ab=>?_⟩
  ·by_cases e':aW=b
   ·subst e'
    rw [jE dR,jE jC];exact pN o ((a' o).1 aD)
   ·exact x7 (hW aW e')
  ·by_cases e':aW=b
   ·subst e'
    simp only [World.kQ,jC,dR] at ab ⊢;rw [CP];exact ab
   ·rw [x6 (hW aW e')];exact ab
 refine ⟨bj,hle,⟨fun aW an az=>hW aW (fun e'=>by rw [e',v'] at az;simp at az),fun aW an az=>?_,fun aW o an az aD=>?_⟩,⟨fun aW o' n2=>?_,fun aW o aD=>?_⟩,?_⟩
 ·have cE:aW≠b:=fun e'=>by rw [e',v'] at az;simp at az
  rw [al.fy _ _ cE,al.mO _ cE];exact az
 ·rcases aD with aD|⟨e',_⟩
  ·exact aD
  ·rw [e',v'] at az;simp at az
 ·by_cases e':aW=b
  ·subst e'
   rw [al.gk] at n2;cases n2;refine ⟨new,dR,by rw [CP,oW,ak5];omega,⟨cap,by rw [CP,oW]⟩,fun o=>⟨fun aD=>?_,fun ah => .inr ⟨rfl,ah⟩⟩⟩;rcases aD with aD|⟨_,ah⟩
   ·have:=(a' o).1 aD;rw [ak5];omega
   ·exact ah
  ·rw [al.fy _ _ e',al.mO _ e'] at n2
   have ah:=cg.obj aW o' n2;have cY:=hW aW e';have KJ:∀ o,bj aW o↔p aW o:=fun o=>⟨fun aD=>by rcases aD with aD|⟨SE,_⟩;exact aD;exact absurd SE e',.inl⟩
   cases o' with
   | box t c=>obtain ⟨us,g1,g2,g3⟩:=ah;exact ⟨us,cY.trans g1,g2.mono hle,fun o aD=>g3 o ((KJ o).1 aD)⟩
   | row t sz n=>obtain ⟨cur,g1,g2,g3,g4⟩:=ah;exact ⟨cur,cY.trans g1,g2,g3,fun o=>(KJ o).trans (g4 o)⟩
   | map es=>obtain ⟨cN,c,g1,g2,g3⟩:=ah;exact ⟨cN,c,cY.trans g1,⟨g2.1.mono hle,g2.2.mono hle⟩,g3⟩
   | ll es it l c=>exact ah.qz hle cY (hW it (ah.zJ jC ba))
   | tick m=>obtain ⟨dN,a2,a3,g1⟩:=ah;exact ⟨dN,a2,a3,cY.trans g1⟩
   | loop r env=>exact ⟨cY.trans ah.1,fun t v h=>(ah.2 t v h).mono hle⟩
 ·rcases aD with aD|⟨rfl,_⟩
  ·simpa using cg.lt aW o aD
  ·simpa using aw
 ·have fg:(xs++ys).length=n+us.length:=by rw [f8,az,hu.length]
  refine .aB _ 0 _ _ _ (vs++us) _ _ ba fg.symm ?_ ((aC.append hu).mono hle) (fun v au=>?_) hm ky (fun h=>by cases h) (fun wa rP=>?_)
  ·intro i v au
   have kt:flat (vs++us)=new.toList.take ((n+us.length)*sz):=by
    rw [F1,n3,← v8,ak5,← kc];have:n*sz+(flat us).length=(cur.toList.take (n*sz)++flat us).length:=by rw [f8,ae8,cj];omega
    rw [this,av7]
   have aN:i<(n+us.length)*sz:=by
    have:=(t7.1 au).1;rw [kt,ae8] at this;omega
   refine ⟨.inr ⟨rfl,by omega⟩,?_⟩;rw [af8,jE dR];rw [kt,ai2,g6 aN] at au;simpa using au
  ·rcases ae4.1 au with au|au
   ·exact ar v au
   ·exact kV v au
  ·cases rP
   exact ⟨rfl,rfl,e,by simp only [World.kQ,dR,CP,oW]⟩
section
variable {P:Program} {Γ:cy} {N:Nat} {env:Env} {s:al}
theorem CQ {t bK ty e:TypeId} {c2:TypeDesc} {i:TypeInfo} (w:World) (aL:P.underlying t=some (.slice e)) (cW:P.underlying bK=some c2) (cq:∀ k,c2 ≠ .int k) (aN:P.info? e=some i)
  (g sLen sCap:Nat) (cur:Array Value) (av:w.heap[g]? = some (.cells cur e (0,0))) {xv:Value} {m:Nat} {news:List Value}
  (aE:(Builtin.lenOf xv).run P w = .ok m w) (a7:(Builtin.firstCells i.size m xv).run P w = .ok news.toArray w) (U:∀ u∈news,u.oneCell'=true)
  (SF:sLen+m≤sCap) (fz:sLen*i.size+news.length≤cur.size) :
  (Builtin.append_ #[t,bK] ty #[.slice (some ⟨g,0,none⟩) sLen sCap,xv]).run P w =
   .ok (.slice (some ⟨g,0,none⟩) (sLen+m) sCap) (w.setRow g (cur.toList.take (sLen*i.size)++news++cur.toList.drop (sLen*i.size+news.length)).toArray):=by
 have aJ:=run_storeCells_at P g (sLen*i.size) e news 0 cur w av (by simpa using fz) U;simp only [ao'] at aJ;have bE:(match c2 with | .int _=>true|_=>false)=false:=by cases c2<;>first|rfl|exact absurd C (cq _)
 simp [Builtin.append_,run_underlying aL,run_underlying cW,sizeOf,typeInfo,aN,bE,aE,SF,a7,Addr.add_lit,aJ]
theorem zZ {t bK ty e:TypeId} {c2:TypeDesc} {i:TypeInfo} {z:Value} (w:World) (aL:P.underlying t=some (.slice e)) (cW:P.underlying bK=some c2) (cq:∀ k,c2 ≠ .int k) (aN:P.info? e=some i) (bE:i.zero=some z)
  {base:Option Addr} {sLen sCap:Nat} {xv:Value} {m:Nat} {olds news:List Value}
  (aE:(Builtin.lenOf xv).run P w = .ok m w) (s8:(Builtin.firstCells i.size sLen (.slice base sLen sCap)).run P w.drew = .ok olds.toArray w.drew) (a7:(Builtin.firstCells i.size m xv).run P w.drew = .ok news.toArray w.drew)
  (av:sCap<sLen+m) (ed:((sLen+m:Nat):Int)≤9223372036854775807) (fz:Builtin.nextslicecap (sLen+m) sCap*i.bytes≤281474976710656) :
  (Builtin.append_ #[t,bK] ty #[.slice base sLen sCap,xv]).run P w =
   .ok (.slice (some ⟨w.heap.size,0,none⟩) (sLen+m) (grownCap w (sLen+m) sCap e))
    (w.drew.alloc (.cells (olds++news++(Builtin.zeroCells z.cells (grownCap w (sLen+m) sCap e-(sLen+m))).toList).toArray e)):=by
 have az:¬ (sLen+m≤sCap):=by omega
 have SG:¬ (9223372036854775807<((sLen:Int)+(m:Int))):=by omega
 have SH:¬ (281474976710656<Builtin.nextslicecap (sLen+m) sCap*i.bytes):=by omega
 have s9:(match c2 with | .int _=>true|_=>false)=false:=by cases c2<;>first|rfl|exact absurd C (cq _)
 simp [Builtin.append_,run_underlying aL,run_underlying cW,sizeOf,typeInfo,zeroValue,aN,bE,s9,aE,az,SG,SH,Question.forced,a7,s8,newRow,grownCap];congr 2;apply ap';simp [af9]
def kd (sz:Nat) (x:af):Bool:=match cellsOf x with
 | some cs=>af2 cs.length sz&&cs.all e7
 | none=>false
theorem SI {w:World} {p:bU} {sz:Nat}:∀ {vs:List Value} {xs:List af},bJ w p vs xs→(∀ x∈xs,kd sz x=true)→∀ u∈flat vs,u.oneCell'=true:=by
 intro vs
 induction vs with
 | nil=>intro xs _ _ u hu;simp [flat] at hu
 | cons v vs aX=>
  intro xs h ab u hu;cases h with
  | cons _ x _ xs aC aL=>
  simp only [flat,aj9,ae4] at hu;rcases hu with hu|hu
  ·have:=ab x (i8 ..)
   unfold kd at this;split at this
   ·rename_i cs hE
    simp only [f9] at this;exact qE (qA aC hE) this.2 u hu
   ·cases this
  ·exact aX aL (fun y ax=>ab y (i6 _ ax)) u hu
theorem qG {w:World} {p:bU} {v:Value} {sz sz':Nat} {xs:List af} {own:bQ} (h:Rel w p v (.aB sz xs own)) (b':xs=[]∨sz=sz') :
  ∃ vs,bJ w p vs xs∧(∀ u∈vs,u.cells.size=sz')∧(∀ P,(Builtin.lenOf v).run P w = .ok xs.length w) ∧
   (∀ P (w':World),(∀ b o,p b o→w'.cell? ⟨b,o,none⟩=w.cell? ⟨b,o,none⟩)→(Builtin.firstCells sz' xs.length v).run P w' = .ok (flat vs).toArray w') ∧
   ∃ base cap,v = .slice base xs.length cap:=by
 cases h with
 | hV _ _ _=>exact ⟨[],.nil,by simp,fun P=>rfl,fun P w' _=>rfl,_,_,rfl⟩
 | ir a _ _ _=>exact ⟨[],.nil,by simp,fun P=>rfl,fun P w' _=>run_firstCells_some w' sz' 0 a _ _ [] ba ba,_,_,rfl⟩
 | aB g off n cap _ vs _ _ az aE aF aC ar hm aA cj ah=>
  have wb:∀ u∈vs,u.cells.size=sz':=by
   rcases b' with rfl|rfl
   ·have:vs=[]:=ai6 (by rw [aC.length];rfl)
    subst this;simp
   ·exact ar
  subst aE;refine ⟨vs,aC,wb,fun P=>rfl,fun P w' iK=>?_,_,_,rfl⟩;refine run_firstCells_some w' sz' xs.length ⟨g,off,none⟩ _ _ (flat vs) (by rw [v7 wb,aC.length]) ?_;intro j u hu;obtain ⟨U,ad⟩:=aF j u hu;rw [lo,iK _ _ U];exact ad
theorem a6.append (aQ:bO P Γ) {o:Oper} {t bK e:TypeId} {x y:Operand} {it cx aG:bN} {dU bV:Nat} {xs ys:List af} {rR dm:bQ}
    (ah:o.op = .call { callee := .builtin .append,args := #[x,y],argTypes := #[t,bK] }) (aL:Γ.get? t=some it) (bq:it.bH = .aB e) (cW:Γ.get? bK=some cx) (dr:∀ k,cx.bH ≠ .int k)
    (bL:Γ.get? e=some aG) (ab:aK env x=some (.aB dU xs rR)) (ax:aK env y=some (.aB bV ys dm)) (hX:xs=[]∨dU=aG.size) (c6:ys=[]∨bV=aG.size)
    (dO:af2 aG.zero.cells.size aG.size=true) (dH:∀ y∈ys,kd aG.size y=true) (an:(xs.length+ys.length)*aG.bytes≤140737488355328) (ed:xs.length+ys.length≤9223372036854775807)
    (z1:(rR = .nil∨rR = .clip)∨∃ b,rR = .own b∧dU=aG.size∧s b=some (.row e aG.size xs.length)) {X:af→al→Prop} :
    a6 P N o env s (fun r ak=>(ys=[]∧(rR = .nil∨rR = .clip)∧r = .aB aG.size xs rR∧ak=s) ∨
      (∃ s₁,(s₁=s∨∃ b,rR = .own b∧s₁=s.del b)∧∃ b,s₁ b=none∧r = .aB aG.size (xs++ys) (.own b)∧ak=s₁.set b (.row e aG.size (xs.length+ys.length)))) X:=by
  refine a6.ku (by simp [gE,ah]) fun ro B a w p aJ=>?_
  obtain ⟨info,d,U,ad,aj,-⟩:=aQ.parts aL;obtain ⟨mM,c2,g1,g2,g3,-⟩:=aQ.parts cW;obtain ⟨jO,kv,cF,dj,fe,eI,jP,jl⟩:=aQ.parts bL;have ay:d = .slice e:=by rw [bq] at aj;cases d<;>simp [ev] at aj;rw [aj]
  subst ay;have cq:∀ k,c2 ≠ .int k:=fun k e'=>by subst e';exact dr k g3.symm
  have gd:=aJ.aK ab;have fj:=aJ.aK ax;have eP:∀ val w',(Builtin.append_ #[t,bK] o.type #[a.eval x,a.eval y]).run P w = .ok val w'→(execOp a.eval o).run P w = .ok (.value val) w':=by
    intro val w' h;unfold execOp;rw [ah];simp only [resolve,invoke,builtin,ac',ae5,i5,ar7,ae2,ah2,h]
  generalize ew:a.eval x=dQ at gd eP;generalize ff:a.eval y=fY at fj eP;obtain ⟨us,ie,pO,jQ,ke,s',ta,tb⟩:=qG fj c6;obtain ⟨vs,uC,qH,ac9,KK,z6,pP,tc⟩:=qG gd hX;have iv:=SI ie dH;have oT:=ae0 dO;have F2:=v7 pO;have KL:=v7 qH;have mQ:=ie.length;have qI:=uC.length;have KM:∀ s₁:al,(s₁=s∨∃ b,rR = .own b∧s₁=s.del b)→pP<xs.length+ys.length →
      ∃ val w' ak bj kS,(Builtin.append_ #[t,bK] o.type #[dQ,fY]).run P w = .ok val w'∧dc w p w' bj∧Kept s ak w p w' bj∧dq w' bj ak ∧
        (∃ b,s₁ b=none∧kS = .aB aG.size (xs++ys) (.own b)∧ak=s₁.set b (.row e aG.size (xs.length+ys.length)))∧Rel w' bj val kS:=by
    intro s₁ wc aw;have fX:al.Sub s₁ s:=by
      rcases wc with rfl|⟨b,-,rfl⟩
      · exact al.oU _
      · intro aW;by_cases e':aW=b
        · subst e';exact .inr (al.nw _ _)
        · exact .inl (al.mO _ e')
    have fz:=growslice_fits (need:=xs.length+ys.length) (old:=pP) (bytes:=aG.bytes) aw an;have cO:=zZ (ty:=o.type) w ad g2 cq cF jl (base:=z6) (sLen:=xs.length) (sCap:=pP) (m:=ys.length) (olds:=flat vs) (news:=flat us) (jQ P)
      (by rw [← tc,eI];exact KK P w.drew (fun _ _ _=>rfl)) (by rw [eI];exact ke P w.drew (fun _ _ _=>rfl)) aw ag (by rw [jP];exact fz)
    rw [← tc] at cO;have nx:=am' (show xs.length+ys.length≤xs.length+ys.length from g9 _) (show xs.length+ys.length≤grownCap w (xs.length+ys.length) pP e from by simp [grownCap,Question.cut]);have mm:(Builtin.zeroCells aG.zero.cells (grownCap w (xs.length+ys.length) pP e-(xs.length+ys.length))).toList.length=(grownCap w (xs.length+ys.length) pP e-(xs.length+ys.length))*aG.zero.cells.size:=by
      rw [ae9];simp [Builtin.zeroCells]
    rw [oT] at mm;have CR:(xs++ys).length=xs.length+ys.length:=f8;obtain ⟨bj,dT,dh,dJ,mP,td⟩:=SC (s:=s₁) (aJ.wf.sub fX) (vs:=vs++us) (xs:=xs++ys) (sz:=aG.size) (cap:=grownCap w (xs.length+ys.length) pP e) (e:=e)
      (cur:=(flat vs++flat us++(Builtin.zeroCells aG.zero.cells (grownCap w (xs.length+ys.length) pP e-(xs.length+ys.length))).toList).toArray) (uC.append ie)
      (fun v au=>by rcases ae4.1 au with au|au;exact qH v au;exact pO v au)
      (by
        simp only [an3,f8,KL,F2,mm,qI,mQ,← ak5]
        congr 1;omega)
      (by
        have:(xs++ys).length*aG.size=(flat vs++flat us).length:=by rw [CR,f8,KL,F2,qI,mQ,ak5]
        rw [this,F1];simp only [av7])
      (by rw [CR];exact nx) (by rw [CR];exact ed)
    rw [CR] at dJ mP td;exact ⟨_,_,_,bj,_,cO,dh,dJ.x5 fX,mP,⟨w.heap.size,dT,rfl,rfl⟩,td⟩
  rcases z1 with z1|⟨b,rfl,SJ,v'⟩
  · by_cases aw:pP<xs.length+ys.length
    · obtain ⟨val,w',ak,bj,kS,fr,gx,hv,iY,mn,mo⟩:=KM s (.inl rfl) aw
      exact ⟨val,w',ak,bj,kS,eP _ _ fr,gx,hv,iY,.inr ⟨s,.inl C,mn⟩,mo⟩
    ·
      have ky:pP=xs.length:=by
        cases gd with
        | hV=>simp at tc;omega
        | ir=>simp at tc;omega
        | aB g off n cap _ vs' _ _ az aE aF aC ar hm aA cj ah=>
          simp only [Value.slice.injEq] at tc;rcases z1 with rfl|rfl
          · exact absurd C az
          · rw [← tc.2.2,cj C,aE]
      have pK:ys=[]:=ai6 ag;subst pK;have CM:us=[]:=ai6 (by simpa using mQ);subst CM;refine ⟨dQ,w,s,p,.aB aG.size xs rR,eP _ _ ?_,.refl w p,.refl s w p,aJ.wf,.inl ⟨rfl,z1,rfl,rfl⟩,?_⟩
      · have bE:(match c2 with | .int _=>true|_=>false)=false:=by cases c2<;>first|rfl|exact absurd C (cq _)
        have hle:xs.length≤pP:=by omega
        have pQ:=ke P w (fun _ _ _=>rfl);simp only [List.length_nil] at pQ jQ;have uD:=jQ P;rw [tc];cases z6 with
        | none=>simp [Builtin.append_,run_underlying ad,run_underlying g2,sizeOf,typeInfo,cF,bE,uD,eI,pQ,hle,flat]
        | some aea=>simp [Builtin.append_,run_underlying ad,run_underlying g2,sizeOf,typeInfo,cF,bE,uD,eI,pQ,hle,flat,storeCells]
      · rcases hX with rfl|rfl
        · cases gd with
          | hV _ _ h=>exact .hV _ _ h
          | ir a _ _ h=>exact .ir a _ _ h
          | aB g off n cap _ vs' _ _ az aE aF aC ar hm aA cj ah=>
            have:vs'=[]:=ai6 (by rw [aC.length];rfl);subst this;exact .aB g off n cap _ [] _ _ az aE aF aC ba hm aA cj (fun b an=>by rcases z1 with rfl|rfl<;>cases an)
        · exact gd
  · by_cases aw:pP<xs.length+ys.length
    · obtain ⟨val,w',ak,bj,kS,fr,gx,hv,iY,mn,mo⟩:=KM (s.del b) (.inr ⟨b,rfl,rfl⟩) aw
      exact ⟨val,w',ak,bj,kS,eP _ _ fr,gx,hv,iY,.inr ⟨_,.inr ⟨b,rfl,rfl⟩,mn⟩,mo⟩
    · cases gd with
      | hV _ _ h=>exact absurd C (h b)
      | ir _ _ _ h=>rcases h with h|h<;>cases h
      | aB g off n cap _ vs' _ _ az aE aF aC ar hm aA cj ah=>
        obtain ⟨rfl,rfl,e',KN⟩:=ah b rfl;obtain ⟨cur,cQ,cV,⟨ch,e3⟩,pR⟩:=aJ.wf.obj _ _ v';simp only [Value.slice.injEq] at tc;obtain ⟨rfl,-,rfl⟩:=tc;have oW:cur.size=cap*dU:=by
          simp only [World.kQ,cQ] at KN;simpa using ae7 Prod.snd (al'.inj KN)
        have F3:cur.size=cap*aG.size:=by rw [← SJ];exact oW
        have v8:cur.toList.take (xs.length*aG.size)=flat vs:=by
          have cd:=KK P w (fun _ _ _=>rfl);have b1:=run_firstCells_some (P:=P) w aG.size xs.length ⟨b,0,none⟩ n cap (cur.toList.take (xs.length*aG.size))
            (by have cj:cur.toList.length=cap*aG.size:=by rw [ae9,F3]
                rw [ae8,cj];have:=am8 aG.size (show xs.length≤cap by omega);omega)
            (fun j u hu=>by
              rw [lo,af8,jE cQ]
              rw [ai2] at hu
              split at hu
              · simpa using hu
              · cases hu)
          rw [b1] at cd;have:=Result.ok.inj cd;simpa using this.1
        have cO:=CQ (ty:=o.type) w ad g2 cq cF b xs.length cap cur cQ (jQ P) (by rw [eI];exact ke P w (fun _ _ _=>rfl)) iv ag (by rw [eI,F2,F3,mQ,← ak5];exact am8 _ ag);rw [eI] at cO;obtain ⟨bj,fr,gx,hv,iY⟩:=SD aJ.wf v' cQ F3 rfl uC ie qH pO v8 (by rw [mQ];omega) (by rw [mQ];exact ed);rw [mQ] at gx hv iY;subst aE;exact ⟨_,_,_,bj,_,eP _ _ cO,fr,gx,hv,.inr ⟨_,.inr ⟨_,rfl,rfl⟩,_,al.nw _ _,rfl,rfl⟩,iY⟩
end
inductive ey where
 | ret (v:af)
 | panic (v:af)
def SK (w:World) (p:bU):Ending→ey→Prop
 | .returned v,.ret x=>Rel w p v x
 | .panicked dA,.panic x=>∃ v,x3 v dA∧Rel w p v x
 | _,_=>False
def we (s:al) (w:World) (p:bU) (R:ey→al→Prop) (e:Ending) (w':World):Prop:=
 ∃ o ak bj,SK w' bj e o∧R o ak∧dc w p w' bj∧Kept s ak w p w' bj∧dq w' bj ak
def hO (P:Program) (fv:af) (args:List af) (s:al) (R:ey→al→Prop):Prop:=
 ∀ w p v vs,dq w p s→Rel w p v fv→bJ w p vs args→pJ P ((do let d ← Deferred.ofValue v vs.toArray;invoke d.target d.args:Sem Next).run P w) (we s w p R)
def te (P:Program) (f:FuncId):Prop:=∀ args w,(callFunc f args).run P w = .ok (.enter f args) w
def hh (P:Program) (f:FuncId) (args:List af) (s:al) (R:ey→al→Prop):Prop:=
 te P f∧∀ w p vs,dq w p s→bJ w p vs args→sR P f vs.toArray w (we s w p R)
theorem z7 {P:Program} {f:FuncId} {fn:Func} (a7:P.funcs[f]? = some fn) (az:(fn.name == "runtime.NumGoroutine")=false) (an:fn.body.isNone=false):te P f:=by
 intro args w;unfold callFunc;simp only [ac',run_program,i5,a7,az,an,af6,ah9,ae5]
theorem we.mono {s:al} {w:World} {p:bU} {R dt:ey→al→Prop} (aC:∀ o s,R o s→dt o s) {e:Ending} {w':World} (h:we s w p R e w'):we s w p dt e w' :=
 let ⟨o,ak,bj,U,ad,aj⟩:=h;⟨o,ak,bj,U,aC _ _ ad,aj⟩
theorem hO.mono {P:Program} {fv:af} {args:List af} {s:al} {R dt:ey→al→Prop} (h:hO P fv args s R) (aC:∀ o s,R o s→dt o s):hO P fv args s dt :=
 fun w p v vs U ad aj=>(h w p v vs U ad aj).mono fun _ _ q=>q.mono aC
theorem hh.mono {P:Program} {f:FuncId} {args:List af} {s:al} {R dt:ey→al→Prop} (h:hh P f args s R) (aC:∀ o s,R o s→dt o s):hh P f args s dt :=
 ⟨h.1,fun w p vs U ad=>(h.2 w p vs U ad).mono fun _ _ q=>q.mono aC⟩
theorem hO.fk {P:Program} {f:FuncId} {first cap args:List af} {s:al} {R:ey→al→Prop} (h:hh P f (first++(args++cap)) s R):hO P (.func f first cap) args s R:=by
 intro w p v vs cg au eO;cases au with
 | func _ as cs _ _ aR aF=>
 have cO:(do let d ← Deferred.ofValue (.func (.func f) as cs) vs.toArray;invoke d.target d.args:Sem Next).run P w = .ok (.enter f (as++vs.toArray++cs)) w:=by
  simp only [Deferred.ofValue,ac',ae5,i5,invoke];exact h.1 _ _
 rw [cO];have:=h.2 w p (as.toList++(vs++cs.toList)) cg (aR.append (eO.append aF));have e:(as.toList++(vs++cs.toList)).toArray=as++vs.toArray++cs:=by apply ap';simp
 rw [e] at this;exact this
section
variable {P:Program} {Γ:cy} {N:Nat} {env:Env} {s:al}
theorem a6.call {o:Oper} {g:Operand} {as:Array Operand} {c3:Array TypeId} {fv:af} {xs:List af} {R:ey→al→Prop}
  (ah:o.op = .call { callee := .value g,args:=as,argTypes:=c3 }) (av:aK env g=some fv) (aR:fP env as.toList=some xs) (h:hO P fv xs s R) :
  a6 P N o env s (fun x ak=>R (.ret x) ak) (fun x ak=>R (.panic x) ak):=by
 refine ⟨by simp [gE,ah],fun ro B a w p aJ=>?_⟩;have cO:=h w p (a.eval g) (as.toList.map a.eval) aJ.wf (aJ.aK av) (CC aJ aR);have he:execOp a.eval o=(do let d ← Deferred.ofValue (a.eval g) (as.toList.map a.eval).toArray;invoke d.target d.args:Sem Next):=by
  unfold execOp;rw [ah];simp only [resolve];congr 1;congr 1;apply ap';simp
 rw [he];refine cO.mono ?_;rintro e w' ⟨out,ak,bj,U,ad,aj,a',bz⟩;refine ⟨ak,bj,aj,a',bz,?_⟩;cases e<;>cases out<;>first|exact U.elim|skip
 ·exact ⟨_,ad,U⟩
 ·obtain ⟨v,F4,F5⟩:=U;exact ⟨v,_,F4,ad,F5⟩
theorem fI.call {ops:Array Oper} {Q:b6→Env→al→Prop} {i:Nat} {l:List Nat} {o:Oper} {d:Nat} {f:FuncId} {as:Array Operand} {c3:Array TypeId} {xs:List af} {R:ey→al→Prop}
  (ah:ops[i]? = some o) (av:guardOf ops env o=some true) (ay:o.dst=some d) (aT:aa' d N=true) (bY:o.op = .call { callee := .value (.func f),args:=as,argTypes:=c3 })
  (aR:fP env as.toList=some xs) (h:hh P f xs s R) (aA:∀ x ak,R (.ret x) ak→fI P N ops l Q ((d,x)::env) ak) (ab:∀ x ak,R (.panic x) ak→Q (.panic x) env ak) :
  fI P N ops (i::l) Q env s:=
 fI.op ah av ay aT (a6.call bY (fv := .func f [] []) C aR (hO.fk fV)) aA ab
theorem fI.F6 {ops:Array Oper} {Q:b6→Env→al→Prop} {i:Nat} {l:List Nat} {o:Oper} {d:Nat} {g:Operand} {fv:af} {as:Array Operand} {c3:Array TypeId} {xs:List af} {R:ey→al→Prop}
  (ah:ops[i]? = some o) (av:guardOf ops env o=some true) (ay:o.dst=some d) (aT:aa' d N=true) (bY:o.op = .call { callee := .value g,args:=as,argTypes:=c3 })
  (au:aK env g=some fv) (aR:fP env as.toList=some xs) (h:hO P fv xs s R) (aA:∀ x ak,R (.ret x) ak→fI P N ops l Q ((d,x)::env) ak) (ab:∀ x ak,R (.panic x) ak→Q (.panic x) env ak) :
  fI P N ops (i::l) Q env s:=
 fI.op ah av ay aT (a6.call bY au aR h) aA ab
def pS (P:Program) (t:TypeId) (name:String) (f:FuncId):Prop:=∀ v w,(method (P.types.size+Made.depth) t v name).run P w = .ok (f,v) w
theorem SL {P:Program} {t:TypeId} {name:String} {f:FuncId} {info:TypeInfo} {m:Method} {d:TypeDesc} (aN:P.info? t=some info) (hm:info.methods.find? (·.name==name)=some m) (aD:m.path = #[])
  (a7:m.func=some (f,false)) (ay:P.underlying t=some d) (SM:∀ e,d ≠ .pointer e) (z8:∃ n,P.types.size+Made.depth=n+1):pS P t name f:=by
 intro v w;obtain ⟨n,az⟩:=z8;rw [az];unfold method;simp only [ac',typeInfo,run_program,i5,aN,ae5,hm,aD,follow,a7,receiverAt,run_underlying ay];cases d<;>first|exact absurd C (SM _)|rfl
theorem SN {name:String} {cap args:Array Value}:Go.invoke (.fn (.method name) cap) args=(match args[0]? with
  | some recv=>callMethod recv name (args.extract 1 args.size)
  | none=>stuck "call: a method without a receiver"):=by
 cases h:args[0]? <;> simp [Go.invoke,h]
theorem a6.invoke {o:Oper} {g:Operand} {name:String} {as:Array Operand} {c3:Array TypeId} {t:TypeId} {v:af} {f:FuncId} {xs:List af} {R:ey→al→Prop}
  (ah:o.op = .call { callee := .invoke g name,args:=as,argTypes:=c3 }) (av:aK env g=some (.iface t v)) (aR:fP env as.toList=some xs) (hm:pS P t name f) (h:hh P f (v::xs) s R) :
  a6 P N o env s (fun x ak=>R (.ret x) ak) (fun x ak=>R (.panic x) ak):=by
 refine ⟨by simp [gE,ah],fun ro B a w p aJ=>?_⟩;have mq:=aJ.aK av;generalize SO:a.eval g=aee at mq;cases mq with
 | iface _ val _ oY=>
 have cO:(execOp a.eval o).run P w = .ok (.enter f (#[val]++(as.map a.eval))) w:=by
  unfold execOp;rw [ah];have hex:(#[Value.iface t val]++as.map a.eval).extract 1 (#[Value.iface t val]++as.map a.eval).size=as.map a.eval:=by
   apply ap';simp [av4,List.take_of_length_le]
  have bu:(#[Value.iface t val]++as.map a.eval)[0]? = some (Value.iface t val):=by
   rw [at6 ba];rfl
  simp only [resolve,SO,ac',ae5,i5];rw [Go.Proofs.YtnafpeohfbglmaaGreat.SN,bu];simp only [hex,callMethod,ac',run_program,i5,hm val w];exact h.1 _ _
 rw [cO];have:=h.2 w p (val::as.toList.map a.eval) aJ.wf (.cons _ _ _ _ oY (CC aJ aR));have e:(val::as.toList.map a.eval).toArray = #[val]++(as.map a.eval):=by apply ap';simp
 rw [e] at this;refine this.mono ?_;rintro e w' ⟨out,ak,bj,U,ad,aj,a',bz⟩;refine ⟨ak,bj,aj,a',bz,?_⟩;cases e<;>cases out<;>first|exact U.elim|skip
 ·exact ⟨_,ad,U⟩
 ·obtain ⟨v,F4,F5⟩:=U;exact ⟨v,_,F4,ad,F5⟩
theorem a6.panic {o:Oper} {x:Operand} {t:TypeId} {v:af} (ah:o.op = .panic x) (ab:aK env x=some (.iface t v)) {K:af→al→Prop}:a6 P N o env s K (fun u ak=>u = .iface t v∧ak=s):=by
 refine ⟨by simp [gE,ah],fun ro B a w p aJ=>?_⟩;have aC:=aJ.aK ab;generalize au:a.eval x=dQ at aC;cases aC with
 | iface _ val _ oY=>
 have cO:(execOp a.eval o).run P w = .halt (.panic (.iface t val)) w:=by
  unfold execOp;rw [ah];simp only [au,Instr.panic,ac',run_goPanic,Result.andThen_halt]
 rw [cO];exact ⟨s,p,.refl w p,.refl s w p,aJ.wf,_,_,x3.one _,⟨rfl,rfl⟩,.iface _ _ _ oY⟩
theorem KO {sz:Nat}:∀ {vs:List Value} (_:∀ v∈vs,v.cells.size=sz) {j:Nat} {v:Value} (_:vs[j]? = some v) (k:Nat) {u:Value} (_:v.cells.toList[k]? = some u),(flat vs)[j*sz+k]? = some u:=by
 intro vs
 induction vs with
 | nil=>intro _ j v au;simp at au
 | cons x vs aX=>
  intro ar j v au k u hu;have ab:=ar x (i8 ..);simp only [flat,aj9];cases j with
  | zero=>
   simp at au;subst au;rw [Nat.zero_mul,af8,af' (t7.1 hu).1];exact hu
  | succ j=>
   have aE:x.cells.toList.length=sz:=by rw [ae9,ab]
   have:=aX (fun v au=>ar v (i6 _ au)) (by simpa using au) k hu;rw [af0 (by rw [aE,ak5];omega),aE];have he:(j+1)*sz+k-sz=j*sz+k:=by rw [ak5];omega
   rw [he];exact this
theorem a6.idx (aQ:bO P Γ) {o:Oper} {t e:TypeId} {x y:Operand} {it aG:bN} {xs:List af} {own:bQ} {k:IntKind} {i:Int} {j:Nat} {v:af} {cs:List af} (ah:o.op = .indexAddr t x y)
  (aL:Γ.get? t=some it) (bq:it.bH = .aB e) (bL:Γ.get? e=some aG) (ab:aK env x=some (.aB aG.size xs own)) (ax:aK env y=some (.int k i)) (eR:i=(j:Int)) (aH:xs[j]? = some v)
  (aF:cellsOf v=some cs) {X:af→al→Prop}:a6 P N o env s (fun r ak=>r = .br cs 0∧ak=s) X:=by
 refine a6.ku (by simp [gE,ah]) fun ro B a w p aJ=>?_
 obtain ⟨info,d,U,ad,aj,-⟩:=aQ.parts aL;obtain ⟨jO,kv,cF,dj,fe,eI,-⟩:=aQ.parts bL;have ay:d = .slice e:=by rw [bq] at aj;cases d<;>simp [ev] at aj;rw [aj]
 subst ay;have aC:=aJ.aK ab;have iZ:=aJ.aK ax;generalize ew:a.eval x=dQ at aC;generalize ff:a.eval y=fY at iZ;cases iZ;subst eR;have qJ:j<xs.length:=(t7.1 aH).1;cases aC with
 | hV=>simp at aH
 | ir=>simp at aH
 | aB g off n cap _ vs _ _ az aE cj hg ar hm aA KP cC=>
 obtain ⟨u,hu,zS⟩:=hg.get aH;have nu:=qA zS aF;refine ⟨.pointer (some ⟨g,off+j*aG.size,none⟩),w,s,p,_,?_,.refl w p,.refl s w p,aJ.wf,⟨rfl,rfl⟩,.br g (off+j*aG.size) _ 0 u.cells.toList cs C ?_ nu⟩
 ·unfold execOp
  rw [ah];simp only [ew,ff];refine gS ?_;have aw:(0:Int)≤(j:Int)∧(j:Int)<(n:Int):=by omega
  simp [Instr.indexAt,asIntOf,run_underlying ad,aw.2,sizeOf,typeInfo,cF,eI,lo];intro aY;omega
 ·intro i fx oV
  have:=cj (j*aG.size+i) fx (KO ar hu i oV);rw [← an9] at this;exact this
end
def wg (Γ:cy) (o:Oper) (env:Env):Option af:=
  match o.op with
  | .binOp .quo _ x (.const (.int k (.ofNat (n+1)))) _=>match aK env x with
    | some (.int k' a)=>if k'=k then some (.int k (k.wrap (a.tdiv (aq4 (n+1))))) else none
    | _=>none
  | .binOp .rem _ x (.const (.int k (.ofNat (n+1)))) _=>match aK env x with
    | some (.int k' a)=>if k'=k then some (.int k (a.tmod (aq4 (n+1)))) else none
    | _=>none
  | .convert s d x=>match Γ.get? s,Γ.get? d with
    | some ⟨.int _,_,_,_⟩,some ⟨.int k,_,_,_⟩=>match aK env x with
      | some (.int _ n)=>some (.int k (k.wrap n))
      | _=>none
    | _,_=>none
  | .call { callee := .builtin .max,args,argTypes:=_ }=>match args.toList with
    | [x,y]=>match aK env x,aK env y with
      | some (.int k a),some (.int _ b)=>some (.int k (if b>a then b else a))
      | _,_=>none
    | _=>none
  | .call { callee := .builtin .min,args,argTypes:=_ }=>match args.toList with
    | [x,y]=>match aK env x,aK env y with
      | some (.int k a),some (.int _ b)=>some (.int k (if b<a then b else a))
      | _,_=>none
    | _=>none
  | _=>none
section
variable {P:Program} {Γ:cy} (aQ:bO P Γ) {N:Nat} {B:fO} {ro:Option Nat} {env:Env} {s:al} {a:Act} {w:World} {p:bU} (aJ:dx N B ro env s a w p)
theorem uE {o:Oper} {op:BinOp} {t yt:TypeId} {x y:Operand} {v:Value} {r:af} (ah:o.op = .binOp op t x y yt)
  (U:(eqGuard op t x y (a.eval x) (a.eval y)).run P w = .ok () w) (ad:(binOp op t (a.eval x) (a.eval y)).run P w = .ok v w) (aC:Rel w p v r):gR P o a w p r:=by
 refine .same (val:=v) ?_ aC;unfold execOp;rw [ah];refine gS ?_;rw [ac',U,i5,ad]
include aJ
include aQ
theorem SP {o:Oper} {v:af} (h:wg Γ o env=some v):gR P o a w p v:=by
 unfold wg at h;split at h
 ·rename_i t x k n yt ah
  split at h
  ·rename_i k' u ab
   split at h
   ·rename_i aA
    cases h;subst aA;have U:=aJ.aK ab;generalize au:a.eval x=dQ at U;cases U;refine uE (v := .int k' (k'.wrap (u.tdiv (aq4 (n+1))))) ah ?_ ?_ (.int _ _)
    ·rfl
    ·rw [au]
     have az:¬ (aq4 (n+1)=0):=by simp;omega
     simp only [Act.eval,binOp,Op.intDiv,ne_eq,not_true_eq_false,ah9,az,ae5]
   ·cases h
  ·cases h
 ·rename_i t x k n yt ah
  split at h
  ·rename_i k' u ab
   split at h
   ·rename_i aA
    cases h;subst aA;have U:=aJ.aK ab;generalize au:a.eval x=dQ at U;cases U;refine uE (v := .int k' (u.tmod (aq4 (n+1)))) ah ?_ ?_ (.int _ _)
    ·rfl
    ·rw [au]
     have az:¬ (aq4 (n+1)=0):=by simp;omega
     simp only [Act.eval,binOp,Op.intDiv,ne_eq,not_true_eq_false,ah9,az,ae5]
   ·cases h
  ·cases h
 ·rename_i jR d x ah
  split at h
  ·rename_i KQ dN a2 a3 k ha dk ny ar ay
   split at h
   ·rename_i cF n ab
    cases h;obtain ⟨info,d1,U,ad,aj,-⟩:=aQ.parts ar;obtain ⟨mM,KR,n0,n1,vU,-⟩:=aQ.parts ay;have cd:KR = .int k:=by cases KR<;>simp [ev] at vU;rw [vU]
    have aC:=aJ.aK ab;generalize au:a.eval x=dQ at aC;cases aC;refine .same (val := .int k (k.wrap n)) ?_ (.int _ _);unfold execOp;rw [ah];refine gS ?_;subst cd;rw [au];cases d1<;>simp [ev] at aj
    simp [convert,run_underlying ad,run_underlying n1,Conv.intToInt]
   ·cases h
  ·cases h
 ·rename_i args gl ah
  split at h
  ·rename_i x y aE
   have wh:args = #[x,y]:=by apply ap';simpa using aE
   subst wh;split at h
   ·rename_i k u k' fx ab ax
    cases h;have U:=aJ.aK ab;have ad:=aJ.aK ax;generalize ew:a.eval x=dQ at U;generalize ff:a.eval y=fY at ad;cases U;cases ad;refine .same (val := .int k (if fx>u then fx else u)) ?_ (.int _ _);unfold execOp;rw [ah];simp only [resolve,invoke,builtin,ac',ae5,i5,ar7,ae2,ah2,ew,ff,run_max_int2]
   ·cases h
  ·cases h
 ·rename_i args gl ah
  split at h
  ·rename_i x y aE
   have wh:args = #[x,y]:=by apply ap';simpa using aE
   subst wh;split at h
   ·rename_i k u k' fx ab ax
    cases h;have U:=aJ.aK ab;have ad:=aJ.aK ax;generalize ew:a.eval x=dQ at U;generalize ff:a.eval y=fY at ad;cases U;cases ad;refine .same (val := .int k (if fx<u then fx else u)) ?_ (.int _ _);unfold execOp;rw [ah];simp only [resolve,invoke,builtin,ac',ae5,i5,ar7,ae2,ah2,ew,ff,run_min_int2]
   ·cases h
  ·cases h
 ·cases h
omit aJ aQ in
theorem SQ {o:Oper} {v:af} (h:wg Γ o env=some v):gE o=true:=by
 unfold gE;cases ah:o.op<;>first|rfl|(unfold wg at h;rw [ah] at h;cases h)
omit aQ in
theorem SR {o:Oper} {t yt:TypeId} {x y:Operand} {u v:List UInt8} (ah:o.op = .binOp .add t x y yt) (ab:aK env x=some (.str u)) (ax:aK env y=some (.str v)) (aE:u.length+v.length≤9223372036854775807) :
  gR P o a w p (.str (u++v)):=by
 have U:=aJ.aK ab;have ad:=aJ.aK ax;generalize ew:a.eval x=dQ at U;generalize ff:a.eval y=fY at ad;cases U with|str ha _ cd=>cases ad with|str dk _ b1=>
 refine uE (v := .string (ha++dk)) ah ?_ ?_ ?_
 ·exact rfl
 ·rw [ew,ff]
  have ar:¬ ((ha.size+dk.size:Nat):Int)>IntKind.i64.max:=by
   have dN:ha.size=u.length:=by rw [← cd];simp
   have a2:dk.size=v.length:=by rw [← b1];simp
   have:IntKind.i64.max=9223372036854775807:=by decide
   rw [dN,a2,this];omega
  simp only [binOp,Op.stringOp,d9 ar,ae5]
 ·exact .str _ _ (by rw [← cd,← b1];simp [ByteArray.data_append])
theorem SS {o:Oper} {t e:TypeId} {x y:Operand} {it aG:bN} {sz:Nat} {xs:List af} {own:bQ} {k:IntKind} {i:Int} {j:Nat} {v:af} {cs:List af} (ah:o.op = .indexAddr t x y)
  (aL:Γ.get? t=some it) (bq:it.bH = .aB e) (bL:Γ.get? e=some aG) (ab:aK env x=some (.aB sz xs own)) (b':sz=aG.size) (ax:aK env y=some (.int k i)) (eR:i=(j:Int)) (aH:xs[j]? = some v)
  (aF:cellsOf v=some cs):gR P o a w p (.br cs 0):=by
 subst b';obtain ⟨info,d,U,ad,aj,-⟩:=aQ.parts aL;obtain ⟨jO,kv,cF,dj,fe,eI,-⟩:=aQ.parts bL;have ay:d = .slice e:=by rw [bq] at aj;cases d<;>simp [ev] at aj;rw [aj]
 subst ay;have aC:=aJ.aK ab;have iZ:=aJ.aK ax;generalize ew:a.eval x=dQ at aC;generalize ff:a.eval y=fY at iZ;cases iZ;subst eR;have qJ:j<xs.length:=(t7.1 aH).1;cases aC with
 | hV=>simp at aH
 | ir=>simp at aH
 | aB g off n cap _ vs _ _ az aE cj hg ar hm aA KP cC=>
 obtain ⟨u,hu,zS⟩:=hg.get aH;have nu:=qA zS aF;refine .same (val := .pointer (some ⟨g,off+j*aG.size,none⟩)) ?_ (.br g (off+j*aG.size) _ 0 u.cells.toList cs C ?_ nu)
 ·unfold execOp
  rw [ah];simp only [ew,ff];refine gS ?_;have aw:(0:Int)≤(j:Int)∧(j:Int)<(n:Int):=by omega
  simp [Instr.indexAt,asIntOf,run_underlying ad,aw.2,sizeOf,typeInfo,cF,eI,lo];intro aY;omega
 ·intro i fx oV
  have:=cj (j*aG.size+i) fx (KO ar hu i oV);rw [← an9] at this;exact this
theorem SU {o:Oper} {t:TypeId} {x y:Operand} {it:bN} {l:List UInt8} {k:IntKind} {i:Int} {j:Nat} {b:UInt8} (ah:o.op = .index t x y)
  (aL:Γ.get? t=some it) (bq:it.bH = .str) (ab:aK env x=some (.str l)) (ax:aK env y=some (.int k i)) (eR:i=(j:Int)) (aH:l[j]? = some b) :
  gR P o a w p (.int .u8 b.toNat):=by
 obtain ⟨info,d,U,ad,aj,-⟩:=aQ.parts aL;have ay:d = .string:=by rw [bq] at aj;cases d<;>simp [ev] at aj;rfl
 subst ay;have aC:=aJ.aK ab;have iZ:=aJ.aK ax;generalize ew:a.eval x=dQ at aC;generalize ff:a.eval y=fY at iZ;cases iZ;subst eR;cases aC with
 | str mR _ e=>
 have av:mR[j]? = some b:=by
  rw [← e] at aH;have:mR.data[j]? = some b:=by simpa using aH
  exact this
 refine .same (val := .int .u8 b.toNat) ?_ (.int _ _);unfold execOp;rw [ah];simp only [ew,ff];refine gS ?_;simp [Instr.index,asIntOf,run_underlying ad,av]
omit aJ aQ in
theorem SV {sz:Nat}:∀ {vs:List Value} (_:∀ v∈vs,v.cells.size=sz) (l:Nat) (i:Nat),l≤vs.length→(flat (vs.drop l))[i]? = (flat vs)[l*sz+i]?:=by
 intro vs
 induction vs with
 | nil=>
  intro _ l i aE;have:l=0:=by simpa using aE
  subst this;simp
 | cons v vs aX=>
  intro ar l i aE;cases l with
  | zero=>simp
  | succ l=>
   have au:=ar v (i8 ..);rw [ao3,aX (fun v au=>ar v (i6 _ au)) l i (by simpa using aE)];simp only [flat,aj9];rw [af0 (by rw [ae9,au,ak5];omega),ae9,au];congr 1;rw [ak5];omega
omit aJ aQ in
theorem SW {vs:List Value} (h:Nat) {i:Nat} {u:Value} (hu:(flat (vs.take h))[i]? = some u):(flat vs)[i]? = some u:=by
 have:flat vs=flat (vs.take h)++flat (vs.drop h):=by rw [← F1,List.take_append_drop]
 rw [this,af' (t7.1 hu).1];exact hu
theorem SX {o:Oper} {t e:TypeId} {x:Operand} {en aN jm:Option Operand} {it aG:bN} {sz:Nat} {xs:List af} {own cS:bQ} {l h:Nat} (ah:o.op = .slice t x en aN jm)
  (aL:Γ.get? t=some it) (bq:it.bH = .aB e) (bL:Γ.get? e=some aG) (ab:aK env x=some (.aB sz xs own)) (b':xs=[]∨sz=aG.size)
  (iL:(en=none∧l=0)∨∃ y k,en=some y∧aK env y=some (.int k (l:Int))) (qK:(aN=none∧jm=none∧h=xs.length)∨∃ y k,aN=some y∧aK env y=some (.int k (h:Int)))
  (nz:(jm=none∧cS = .bc)∨(∃ y k,jm=some y∧aK env y=some (.int k (h:Int))∧cS = .clip)) (aE:l≤h) (cY:h≤xs.length):gR P o a w p (.aB sz ((xs.take h).drop l) cS):=by
 obtain ⟨info,d,U,ad,aj,-⟩:=aQ.parts aL;obtain ⟨jO,kv,cF,dj,fe,eI,-⟩:=aQ.parts bL;have ay:d = .slice e:=by rw [bq] at aj;cases d<;>simp [ev] at aj;rw [aj]
 subst ay;have i':∀ b,cS ≠ .own b:=by rcases nz with ⟨-,rfl⟩|⟨_,_,-,-,rfl⟩<;>simp
 have uF:cS ≠ .nil:=by rcases nz with ⟨-,rfl⟩|⟨_,_,-,-,rfl⟩<;>simp
 have n4:∀ {y k} {n:Nat},aK env y=some (.int k (n:Int))→a.eval y = .int k (n:Int):=fun he=>by
  have:=aJ.aK he;generalize a.eval _=v at this ⊢;cases this;rfl
 have SY:∀ (cap:Nat),xs.length≤cap→∃ m,(Instr.sliceBounds true xs.length cap (en.map a.eval) (aN.map a.eval) (jm.map a.eval)).run P w = .ok (l,h,m) w∧h≤m∧m≤cap∧(cS = .clip→m=h):=by
  intro cap ky;have az:∀ n:Nat,(0:Int)≤(n:Int):=fun n=>by omega
  have F7:(l:Int)≤(h:Int):=by omega
  have CS:(h:Int)≤(cap:Int):=by omega
  rcases nz with ⟨rfl,rfl⟩|⟨aez,aet,rfl,z',rfl⟩
  ·rcases qK with ⟨rfl,-,rfl⟩|⟨SZ,S0,rfl,Aa⟩
   ·refine ⟨cap,?_,ky,g9 _,by simp⟩
    rcases iL with ⟨rfl,rfl⟩|⟨KS,nA,rfl,hP⟩
    ·simp [Instr.sliceBounds]
    ·simp [Instr.sliceBounds,n4 hP,run_sliceBound,az,F7]
   ·refine ⟨cap,?_,by omega,g9 _,by simp⟩
    rcases iL with ⟨rfl,rfl⟩|⟨KS,nA,rfl,hP⟩
    ·simp [Instr.sliceBounds,n4 Aa,run_sliceBound,az,CS]
    ·simp [Instr.sliceBounds,n4 Aa,n4 hP,run_sliceBound,az,F7,CS]
  ·rcases qK with ⟨-,bu,-⟩|⟨SZ,S0,rfl,Aa⟩
   ·cases bu
   ·refine ⟨h,?_,g9 _,by omega,fun _=>rfl⟩
    rcases iL with ⟨rfl,rfl⟩|⟨KS,nA,rfl,hP⟩
    ·simp [Instr.sliceBounds,n4 Aa,n4 z',run_sliceBound,az,CS]
    ·simp [Instr.sliceBounds,n4 Aa,n4 hP,n4 z',run_sliceBound,az,F7,CS]
 have eP:∀ base cap val,a.eval x = .slice base xs.length cap→xs.length≤cap→(∀ m,h≤m→m≤cap→(cS = .clip→m=h)→Rel w p (.slice (if m=l then base else base.map (·.add (l*aG.size))) (h-l) (m-l)) val)→gR P o a w p val:=by
  intro base cap val ew ky eT;obtain ⟨m,an,qL,mr,S1⟩:=SY cap ky;refine .same ?_ (eT m qL mr S1);unfold execOp;rw [ah];simp only [ew];refine gS ?_;simp only [Instr.sliceAt,Instr.slice,ac',run_underlying ad,i5,an,sizeOf,typeInfo,run_program,cF,ae5,eI]
 have aC:=aJ.aK ab;generalize ew:a.eval x=dQ at aC;cases aC with
 | hV _ _ _=>
  refine eP none 0 _ ew (g9 _) (fun m U ad aj=>?_);have cd:h=0:=by simpa using cY
  have b1:l=0:=by omega
  have ek:m=0:=by omega
  subst cd;subst b1;subst ek;simp only [ag7,aC7,at5];exact .hV _ _ i'
 | ir a _ _ _=>
  refine eP (some a) 0 _ ew (g9 _) (fun m U ad aj=>?_);have cd:h=0:=by simpa using cY
  have b1:l=0:=by omega
  have ek:m=0:=by omega
  subst cd;subst b1;subst ek;simp only [ag7,aC7,at5];refine .ir a _ _ ?_;cases cS with
  | bc=>exact .inl C
  | clip=>exact .inr C
  | nil=>exact absurd C uF
  | own b=>exact absurd C (i' b)
 | aB g off n cap _ vs _ _ az lp cj hg ar hm aA KP cC=>
  subst lp;refine eP _ cap _ ew aA (fun m U ad aj=>?_);have hlen:h-l=((xs.take h).drop l).length:=by simp;omega
  have fs:=hg.length;have S2:∃ CT,(if m=l then (some ⟨g,off,none⟩:Option Addr) else (some ⟨g,off,none⟩:Option Addr).map (·.add (l*aG.size)))=some ⟨g,CT,none⟩∧(m≠l→CT=off+l*aG.size):=by
   by_cases e:m=l
   ·exact ⟨off,by simp [e],fun h=>absurd e h⟩
   ·exact ⟨off+l*aG.size,by simp [e,lo],fun _=>rfl⟩
  obtain ⟨CT,S3,S4⟩:=S2;rw [S3];refine .aB g CT _ _ sz ((vs.take h).drop l) _ cS uF hlen ?_ ((hg.take h).drop l) (fun v au=>ar v (ap0 (List.mem_of_mem_drop au))) ag ag (fun aF=>by have:=aj aF;omega) (fun b an=>absurd an (i' b));intro i u hu;by_cases e:m=l
  ·have:(vs.take h).drop l=[]:=by apply List.drop_eq_nil_of_le;rw [ae8];omega
   rw [this] at hu;simp [flat] at hu
  ·rw [S4 e]
   have wb:∀ v∈vs.take h,v.cells.size=aG.size:=by
    rcases b' with rfl|rfl
    ·have:vs=[]:=ai6 (by rw [fs];rfl)
     subst this;simp
    ·exact fun v au=>ar v (ap0 au)
   rw [SV wb l i ui] at hu;have:=cj _ _ (SW h hu);rw [← an9] at this;exact this
end
def n5 (l:List UInt8):List af:=l.map fun b => .int .u8 b.toNat
theorem KT (l:List UInt8):(n5 l).length=l.length:=by simp [n5]
theorem KU {w:World} {p:bU}:∀ (l:List UInt8),bJ w p (l.map fun b=>Value.int .u8 b.toNat) (n5 l)
 | [] => .nil
 | b::l => .cons _ _ _ _ (.int _ _) (KU l)
theorem KV {w:World} {p:bU}:∀ {l:List UInt8} {vs:List Value},bJ w p vs (n5 l)→vs=l.map fun b=>Value.int .u8 b.toNat
  | [],_,h=>by cases h;rfl
  | b::l,_,h=>by
    cases h with|cons v _ vs _ U ad=>
    cases U;rw [KV ad];rfl
section
variable {P:Program} {Γ:cy} (aQ:bO P Γ) {N:Nat} {B:fO} {ro:Option Nat} {env:Env} {s:al} {a:Act} {w:World} {p:bU} (aJ:dx N B ro env s a w p)
include aJ aQ
omit aJ aQ in
theorem KW:∀ (l:List UInt8),flat (l.map fun b=>Value.int .u8 b.toNat)=l.map fun b=>Value.int .u8 b.toNat:=by
 intro l
 induction l with
 | nil=>rfl
 | cons b l aX=>simp only [flat,ae2,aj9,Value.cells] at aX ⊢;rw [aX];rfl
theorem S5 {o:Oper} {jR d e:TypeId} {x:Operand} {is id aG:bN} {sz:Nat} {l:List UInt8} {own:bQ} (ah:o.op = .convert jR d x) (ar:Γ.get? jR=some is) (ay:Γ.get? d=some id) (kz:is.bH = .aB e) (nB:id.bH = .str)
  (he:Γ.get? e=some aG) (oZ:aG.bH = .int .u8) (ab:aK env x=some (.aB sz (n5 l) own)):gR P o a w p (.str l):=by
 obtain ⟨i1,d1,dN,a2,a3,-⟩:=aQ.parts ar;obtain ⟨i2,d2,ha,dk,ny,-⟩:=aQ.parts ay;obtain ⟨i3,d3,cQ,cV,e3,-⟩:=aQ.parts he;have cd:d1 = .slice e:=by rw [kz] at a3;cases d1<;>simp [ev] at a3;rw [a3]
 have b1:d2 = .string:=by rw [nB] at ny;cases d2<;>simp [ev] at ny;rfl
 have ek:d3 = .int .u8:=by rw [oZ] at e3;cases d3<;>simp [ev] at e3;rw [e3]
 subst cd;subst b1;subst ek;have eP:∀ v,(convert jR d (a.eval x)).run P w = .ok v w→(execOp a.eval o).run P w = .ok (.value v) w:=fun v h=>by
  unfold execOp;rw [ah];exact gS h
 have aC:=aJ.aK ab;generalize au:a.eval x=dQ at aC eP;generalize kP:n5 l=CU at aC;cases aC with
 | hV=>
  have aE:l=[]:=by cases l with|nil=>rfl|cons b l=>simp [n5] at kP
  subst aE;refine .same (val := .string ByteArray.empty) (eP _ ?_) (.str _ _ C);rw [run_convert_bytes_string w jR d e none 0 0 a2 cV dk];rfl
 | ir c8 _ _ _=>
  have aE:l=[]:=by cases l with|nil=>rfl|cons b l=>simp [n5] at kP
  subst aE;exact .same (val := .string ⟨#[]⟩) (eP _ (run_convert_bytes_back w jR d e c8 0 [] a2 cV dk (fun j aH=>by simp at aH))) (.str _ _ C)
 | aB g off n cap _ vs _ _ az aE aF hg b' hm aA cj cC=>
  subst kP;have eO:=KV hg;subst eO;rw [KT] at aE;subst aE;refine .same (val := .string ⟨l.toArray⟩) (eP _ ?_) (.str _ _ ba);refine run_convert_bytes_back w jR d e ⟨g,off,none⟩ cap l a2 cV dk (fun j aH=>?_);rw [lo];refine (aF j _ ?_).2;rw [KW];simp [List.getElem?_eq_getElem aH]
theorem S6 {o:Oper} {jR d e:TypeId} {x:Operand} {is id aG:bN} {l:List UInt8} (ah:o.op = .convert jR d x) (ar:Γ.get? jR=some is) (ay:Γ.get? d=some id) (kz:is.bH = .str) (nB:id.bH = .aB e)
  (he:Γ.get? e=some aG) (oZ:aG.bH = .int .u8) (ab:aK env x=some (.str l)) (F8:l.length≤9223372036854775807):gR P o a w p (.aB 1 (n5 l) .bc):=by
 obtain ⟨i1,d1,dN,a2,a3,-⟩:=aQ.parts ar;obtain ⟨i2,d2,ha,dk,ny,-⟩:=aQ.parts ay;obtain ⟨i3,d3,cQ,cV,e3,-⟩:=aQ.parts he;have cd:d1 = .string:=by rw [kz] at a3;cases d1<;>simp [ev] at a3;rfl
 have b1:d2 = .slice e:=by rw [nB] at ny;cases d2<;>simp [ev] at ny;rw [ny]
 have ek:d3 = .int .u8:=by rw [oZ] at e3;cases d3<;>simp [ev] at e3;rw [e3]
 subst cd;subst b1;subst ek;have aC:=aJ.aK ab;generalize au:a.eval x=dQ at aC;cases aC with
 | str mR _ n6=>
 have b':mR.size=l.length:=by rw [← n6];simp
 have cO:=run_bytes_of_string (P:=P) w jR d e mR a2 dk cV;generalize ky:grownCap w mR.size 0 e=cap at cO;have nx:mR.size≤cap:=by rw [← ky];simp [grownCap,Question.cut]
 have jn:(bytesRow mR cap).toList=(l.map fun b=>Value.int .u8 b.toNat)++ab' (cap-mR.size) (.int .u8 0):=by
  simp [bytesRow,← n6]
 generalize S7:Obj.cells (bytesRow mR cap) e ((bytesRow mR cap).size,(bytesRow mR cap).size+1)=ds at cO;have hle:dc w p (w.drew.alloc ds) (p.ea w.heap.size True):=dc.trans kU (uv (w:=w.drew) (fun b o h=>aJ.wf.lt b o h) ds True);refine ⟨.slice (some ⟨w.heap.size,0,none⟩) mR.size cap,_,_,?_,?_,hle,fun ak hF=>⟨?_,?_⟩⟩
 ·unfold execOp
  rw [ah];simp only [au];exact gS cO
 ·refine .aB w.heap.size 0 _ cap 1 (l.map fun b=>Value.int .u8 b.toNat) (n5 l) .bc ba (by rw [KT,b']) ?_ (KU l) (by simp [Value.cells]) ag nx ba ba
  rw [KW];intro i v CV;refine ⟨.inr ⟨rfl,trivial⟩,?_⟩;have cY:(w.drew.alloc ds).heap[w.heap.size]? = some ds:=uu w.drew ds;rw [← S7] at cY ⊢;simp only [World.cell?,cY,au0,af6,ah9,af8];have:(bytesRow mR cap).toList[i]? = some v:=by
   rw [jn,af' (t7.1 CV).1];exact CV
  simpa using this
 ·exact Kept.trans (s₁:=ak) (w₁:=w.drew) (p₁:=p) (g9 _) vQ (Cu (w:=w.drew) ds True)
 ·exact zK (w:=w.drew) (x8 hF) ds True
end
inductive lT (Γ:cy) (o:Oper) (env:Env):af→Prop
 | a {v:af} (h:pL Γ o env=some v):lT Γ o env v
 | x {v:af} (h:wg Γ o env=some v):lT Γ o env v
 | cat {t yt:TypeId} {x y:Operand} {u v:List UInt8} (ah:o.op = .binOp .add t x y yt) (ab:aK env x=some (.str u)) (ax:aK env y=some (.str v)) (aE:u.length+v.length≤9223372036854775807):lT Γ o env (.str (u++v))
 | toStr {jR d e:TypeId} {x:Operand} {is id aG:bN} {sz:Nat} {l:List UInt8} {own:bQ} (ah:o.op = .convert jR d x) (ar:Γ.get? jR=some is) (ay:Γ.get? d=some id) (kz:is.bH = .aB e) (nB:id.bH = .str)
   (he:Γ.get? e=some aG) (oZ:aG.bH = .int .u8) (ab:aK env x=some (.aB sz (n5 l) own)):lT Γ o env (.str l)
 | CW {jR d e:TypeId} {x:Operand} {is id aG:bN} {l:List UInt8} (ah:o.op = .convert jR d x) (ar:Γ.get? jR=some is) (ay:Γ.get? d=some id) (kz:is.bH = .str) (nB:id.bH = .aB e)
   (he:Γ.get? e=some aG) (oZ:aG.bH = .int .u8) (ab:aK env x=some (.str l)) (F8:l.length≤9223372036854775807):lT Γ o env (.aB 1 (n5 l) .bc)
 | idx {t e:TypeId} {x y:Operand} {it aG:bN} {sz:Nat} {xs:List af} {own:bQ} {k:IntKind} {i:Int} (j:Nat) {v:af} {cs:List af} (ah:o.op = .indexAddr t x y)
   (aL:Γ.get? t=some it) (bq:it.bH = .aB e) (bL:Γ.get? e=some aG) (ab:aK env x=some (.aB sz xs own)) (b':sz=aG.size) (ax:aK env y=some (.int k i)) (eR:i=(j:Int)) (aH:xs[j]? = some v)
   (aF:cellsOf v=some cs):lT Γ o env (.br cs 0)
 | Ab {t:TypeId} {x y:Operand} {it:bN} {l:List UInt8} {k:IntKind} {i:Int} (j:Nat) {b:UInt8} (ah:o.op = .index t x y)
   (aL:Γ.get? t=some it) (bq:it.bH = .str) (ab:aK env x=some (.str l)) (ax:aK env y=some (.int k i)) (eR:i=(j:Int)) (aH:l[j]? = some b):lT Γ o env (.int .u8 b.toNat)
 | slice {t e:TypeId} {x:Operand} {en aN jm:Option Operand} {it aG:bN} {sz:Nat} {xs:List af} {own cS:bQ} (l h:Nat) (ah:o.op = .slice t x en aN jm)
   (aL:Γ.get? t=some it) (bq:it.bH = .aB e) (bL:Γ.get? e=some aG) (ab:aK env x=some (.aB sz xs own)) (b':xs=[]∨sz=aG.size)
   (iL:(en=none∧l=0)∨∃ y k,en=some y∧aK env y=some (.int k (l:Int))) (qK:(aN=none∧jm=none∧h=xs.length)∨∃ y k,aN=some y∧aK env y=some (.int k (h:Int)))
   (nz:(jm=none∧cS = .bc)∨(∃ y k,jm=some y∧aK env y=some (.int k (h:Int))∧cS = .clip)) (aE:l≤h) (cY:h≤xs.length):lT Γ o env (.aB sz ((xs.take h).drop l) cS)
theorem lT.ok {P:Program} {Γ:cy} (aQ:bO P Γ) {N:Nat} {B:fO} {ro:Option Nat} {env:Env} {s:al} {a:Act} {w:World} {p:bU} (aJ:dx N B ro env s a w p) {o:Oper} {v:af} (h:lT Γ o env v):gR P o a w p v:=by
 cases h with
 | a h=>exact KF aQ aJ h
 | x h=>exact SP aQ aJ h
 | cat ah ab ax aE=>exact SR aJ ah ab ax aE
 | toStr ah ar ay kz nB he oZ ab=>exact S5 aQ aJ ah ar ay kz nB he oZ ab
 | CW ah ar ay kz nB he oZ ab aE=>exact S6 aQ aJ ah ar ay kz nB he oZ ab aE
 | idx j ah aL bq bL ab b' ax eR aH aF=>exact SS aQ aJ ah aL bq bL ab b' ax eR aH aF
 | Ab j ah aL bq ab ax eR aH=>exact SU aQ aJ ah aL bq ab ax eR aH
 | slice l h ah aL bq bL ab b' iL qK nz aE cY=>exact SX aQ aJ ah aL bq bL ab b' iL qK nz aE cY
theorem lT.gE {Γ:cy} {env:Env} {o:Oper} {v:af} (h:lT Γ o env v):Go.Proofs.YtnafpeohfbglmaaGreat.gE o=true:=by
 cases h with
 | a h=>exact KG h
 | x h=>exact SQ h
 | cat ah=>simp [Go.Proofs.YtnafpeohfbglmaaGreat.gE,ah]
 | toStr ah=>simp [Go.Proofs.YtnafpeohfbglmaaGreat.gE,ah]
 | CW ah=>simp [Go.Proofs.YtnafpeohfbglmaaGreat.gE,ah]
 | idx j ah=>simp [Go.Proofs.YtnafpeohfbglmaaGreat.gE,ah]
 | Ab j ah=>simp [Go.Proofs.YtnafpeohfbglmaaGreat.gE,ah]
 | slice l h ah=>simp [Go.Proofs.YtnafpeohfbglmaaGreat.gE,ah]
theorem a6.pure {P:Program} {Γ:cy} (aQ:bO P Γ) {N:Nat} {env:Env} {s:al} {o:Oper} {v:af} (h:lT Γ o env v):a6 P N o env s (fun x ak=>x=v∧ak=s) (fun _ _=>False):=
 a6.ns h.gE fun _ _ _ _ _ aJ=>h.ok aQ aJ
def rS:Nat→List af→Env
 | _,[]=>[]
 | k,v::vs=>(k,v)::rS (k+1) vs
def Ac (Γ:cy) (env:Env) (s:al):ResultVar→Option af
  | .tmp t=>env.get? t
  | .cell a t=>match env.get? a,Γ.get? t with
    | some (.ptr b o),some i=>match s b with
      | some (.box _ cs)=>hK i cs o
      | _=>none
    | some (.br cs o),some i=>hK i cs o
    | _,_=>none
def wi (Γ:cy) (env:Env) (s:al):List ResultVar→Option (List af)
  | []=>some []
  | r::rs=>match Ac Γ env s r with
    | some v=>match wi Γ env s rs with
      | some vs=>some (v::vs)
      | none=>none
    | none=>none
def n7 (Γ:cy) (env:Env) (s:al) (rs:List ResultVar):Option af:=
 match wi Γ env s rs with
 | some [v]=>some v
 | some vs=>some (.cu vs)
 | none=>none
section
variable {P:Program} {Γ:cy}
theorem S8 (aQ:bO P Γ) {N:Nat} {B:fO} {ro:Option Nat} {env:Env} {s:al} {a:Act} {w w':World} {p:bU} (aJ:dx N B ro env s a w p)
  (hw:∀ b o v,w.cell? ⟨b,o,none⟩=some v→w'.cell? ⟨b,o,none⟩=some v) (jj:∀ v x,Rel w p v x→Rel w' p v x) {r:ResultVar} {v:af} (h:Ac Γ env s r=some v) :
  ∃ val,((match r with
   | .tmp t=>pure (a.tmps.getD t undef)
   | .cell b t=>do loadVar t (← asAddr (a.tmps.getD b undef))):Sem Value).run P w' = .ok val w'∧Rel w' p val v:=by
 cases r with
 | tmp t=>exact ⟨_,rfl,jj _ _ (aJ.env t v h)⟩
 | cell b t=>
  simp only [Ac] at h;split at h
  ·rename_i aW o i an aN
   split at h
   ·rename_i T cs ar
    have aC:=aJ.env b _ an;generalize au:a.tmps.getD b undef=z6 at aC;cases aC;obtain ⟨vs,U,ad,aj⟩:=aJ.wf.obj _ _ ar;have hg:bJ w' p vs.toList cs:=by
     have:∀ us xs,bJ w p us xs→bJ w' p us xs:=by
      intro us
      induction us with
      | nil=>intro xs h;cases h;exact .nil
      | cons u us aX=>intro xs h;cases h with|cons _ x _ xs ab aL=>exact .cons _ _ _ _ (jj _ _ ab) (aX _ aL)
     exact this _ _ ad
    obtain ⟨val,cO,eT⟩:=zP aQ aN (b:=aW) (base:=0) (vs:=vs.toList) (w:=w') (fun j u hu=>by
     rw [af8];refine hw _ _ _ ?_;rw [jE U];simpa using hu) hg h
    rw [af8] at cO;exact ⟨val,by simp only [au,asAddr,ac',ae5,i5,cO],eT⟩
   ·cases h
  ·rename_i cs o i an aN
   have aC:=jj _ _ (aJ.env b _ an);generalize au:a.tmps.getD b undef=z6 at aC;cases aC with
   | br mR base uy _ vs _ lP aF hg=>
   subst lP;obtain ⟨val,cO,eT⟩:=zP aQ aN (b:=mR) (base:=base) (fun j u hu=>(aF j u hu).2) hg h;exact ⟨val,by simp only [au,asAddr,ac',ae5,i5,cO],eT⟩
  ·cases h
theorem S9 (aQ:bO P Γ) {N:Nat} {B:fO} {ro:Option Nat} {env:Env} {s:al} {a:Act} {w w':World} {p:bU} (aJ:dx N B ro env s a w p)
  (hw:∀ b o v,w.cell? ⟨b,o,none⟩=some v→w'.cell? ⟨b,o,none⟩=some v) (jj:∀ v x,Rel w p v x→Rel w' p v x):∀ {rs:List ResultVar} {xs:List af} (_:wi Γ env s rs=some xs),
  ∃ mS,(rs.mapM fun r=>((match r with
   | .tmp t=>pure (a.tmps.getD t undef)
   | .cell b t=>do loadVar t (← asAddr (a.tmps.getD b undef))):Sem Value)).run P w' = .ok mS w'∧bJ w' p mS xs:=by
 intro rs
 induction rs with
 | nil=>intro xs h;cases h;exact ⟨[],by simp,.nil⟩
 | cons r rs aX=>
  intro xs h;simp only [wi] at h;split at h
  ·rename_i v au
   split at h
   ·rename_i vs eO
    cases h;obtain ⟨val,U,ad⟩:=S8 aQ aJ hw jj au;obtain ⟨mS,aj,a'⟩:=aX eO;exact ⟨val::mS,by simp only [ay1,ac',U,i5,aj,ae5],.cons _ _ _ _ ad a'⟩
   ·cases h
  ·cases h
theorem S' (aQ:bO P Γ) {N:Nat} {B:fO} {ro:Option Nat} {env:Env} {s:al} {a:Act} {w w':World} {p:bU} (aJ:dx N B ro env s a w p)
  (hw:∀ b o v,w.cell? ⟨b,o,none⟩=some v→w'.cell? ⟨b,o,none⟩=some v) (jj:∀ v x,Rel w p v x→Rel w' p v x) {fn:Func} {v:af} (h:n7 Γ env s fn.results.toList=some v) :
  ∃ val,(results fn a.tmps).run P w' = .ok val w'∧Rel w' p val v:=by
 unfold n7 at h;have key:∀ xs,wi Γ env s fn.results.toList=some xs→∃ mS,(results fn a.tmps).run P w' = .ok (if h:mS.length=1 then mS[0] else .tuple mS.toArray) w'∧bJ w' p mS xs:=by
  intro xs dg;obtain ⟨mS,U,ad⟩:=S9 aQ aJ hw jj dg;refine ⟨mS,?_,ad⟩;unfold results;rw [Array.mapM_eq_mapM_toList];simp only [ac',Sem.run_map];erw [U];simp only [i5,ae5];by_cases aE:mS.length=1
  ·simp [aE]
  ·simp [aE]
 split at h
 ·rename_i fx au
  cases h;obtain ⟨mS,U,ad⟩:=key _ au;cases ad with
  | cons u _ us _ hu aL=>cases aL;exact ⟨u,by simpa using U,hu⟩
 ·rename_i vs cE au
  cases h;obtain ⟨mS,U,ad⟩:=key _ au;have aE:mS.length≠1:=by
   rw [ad.length];intro aE;obtain ⟨x,ab⟩:=List.length_eq_one_iff.1 aE;exact cE x ab
  rw [dif_neg aE] at U;exact ⟨_,U,.cu _ _ qu⟩
 ·cases h
theorem F9 {s:al} {p:bU}:∀ (cf:List Nat) (w:World),dq w p s→(∀ d∈cf,∃ x,w.heap[d]? = some (.deferred x)) →
    dc w p (hr w cf) p∧dq (hr w cf) p s∧(∀ b,b∉cf→(hr w cf).heap[b]? = w.heap[b]?)∧(∀ b o v,w.cell? ⟨b,o,none⟩=some v→(hr w cf).cell? ⟨b,o,none⟩=some v):=by
  intro cf
  induction cf with
  | nil=>intro w cg _;exact ⟨.refl w p,cg,fun _ _=>rfl,fun _ _ _ h=>h⟩
  | cons d cf aX=>
    intro w cg ay;obtain ⟨x,ab⟩:=ay d (i8 ..);have aw:d<w.heap.size:=(t8.1 ab).1
    let w₁:World:={ w with heap:=w.heap.setIfInBounds d (.deferred none) }
    have oX:w₁.heap[d]? = some (.deferred none):=by simp [w₁,ag9,aw]
    have hW:∀ k,k≠d→w₁.heap[k]? = w.heap[k]? := fun k aA=>by
      show (w.heap.setIfInBounds d (.deferred none))[k]? = _;rw [ag9,d9 (fun e=>aA e.symm)]
    have jC:∀ b o,w₁.cell? ⟨b,o,none⟩=w.cell? ⟨b,o,none⟩:=fun b o=>by
      by_cases e:b=d
      · subst e;simp only [World.cell?,oX,ab]
      · exact x7 (hW b e)
    have hle:dc w p w₁ p:=⟨rfl,rfl,rfl,by simp [w₁],fun _ _ h=>h,fun b o _=>jC b o,fun b y ax=>by
      by_cases e:b=d
      · subst e;simp [World.kQ,ab] at ax
      · rw [x6 (hW b e)];exact ax⟩
    have Ta:dq w₁ p s:=by
      refine ⟨fun b o an=>?_,fun b o aD=>by simpa [w₁] using cg.lt b o aD⟩;have ah:=cg.obj b o an;have cE:b≠d:=by
        intro e;subst e;cases o with
        | box t c=>obtain ⟨us,g1,-⟩:=ah;rw [ab] at g1;cases g1
        | row t sz n=>obtain ⟨us,g1,-⟩:=ah;rw [ab] at g1;cases g1
        | map es=>obtain ⟨us,c,g1,-⟩:=ah;rw [ab] at g1;cases g1
        | ll es it l c=>obtain ⟨_,_,_,g1,-⟩:=ah;rw [ab] at g1;cases g1
        | tick m=>obtain ⟨_,_,_,g1⟩:=ah;rw [ab] at g1;cases g1
        | loop r env=>have cC:=ah.1;rw [ab] at cC;cases cC
      have cY:=hW b cE;cases o with
      | box t c=>obtain ⟨us,g1,g2,g3⟩:=ah;exact ⟨us,cY.trans g1,g2.mono hle,g3⟩
      | row t sz n=>obtain ⟨cur,g1,g2,g3,g4⟩:=ah;exact ⟨cur,cY.trans g1,g2,g3,g4⟩
      | map es=>obtain ⟨cN,c,g1,g2,g3⟩:=ah;exact ⟨cN,c,cY.trans g1,⟨g2.1.mono hle,g2.2.mono hle⟩,g3⟩
      | ll es it l c=>exact ah.qz hle cY (hW it (ah.zJ ab ba))
      | tick m=>obtain ⟨dN,a2,a3,g1⟩:=ah;exact ⟨dN,a2,a3,cY.trans g1⟩
      | loop r env=>exact ⟨cY.trans ah.1,fun t v h=>(ah.2 t v h).mono hle⟩
    obtain ⟨i1,i2,i3,i4⟩:=aX w₁ Ta (fun c2 cq=>by
      by_cases e:c2=d
      · subst e;exact ⟨none,oX⟩
      · obtain ⟨y,ax⟩:=ay c2 (i6 _ cq);exact ⟨y,(hW c2 e).trans ax⟩)
    refine ⟨hle.trans i1,i2,fun b an=>?_,fun b o v au=>i4 b o v ((jC b o).trans au)⟩;have U:b≠d:=fun e=>an (e ▸ i8 ..)
    have ad:b∉cf:=fun e=>an (i6 _ e)
    exact (i3 b ad).trans (hW b U)
def Fin (Γ:cy) (rs:List ResultVar) (R:ey→al→Prop):b6→Env→al→Prop
 | .normal,env,s | .ret,env,s=>∃ r r' ak,n7 Γ env s rs=some r∧aU r r'∧al.Sub ak s∧R (.ret r') ak
 | .panic v,_,s=>∃ fx ak,aU v fx∧al.Sub ak s∧R (.panic fx) ak
 | .exit _,_,_=>False
theorem Tb {w:World} {p:bU}:∀ (k:Nat) (args:List af) (vs pre:List Value),pre.length=k→bJ w p vs args→∀ t v,(rS k args).get? t=some v→∃ u,(pre++vs)[t]? = some u∧Rel w p u v:=by
 intro k args
 induction args generalizing k with
 | nil=>intro vs pre _ _ t v h;simp [rS,Env.get?] at h
 | cons x xs aX=>
  intro vs pre aA aC t v h;cases aC with
  | cons u _ us _ hu aL=>
  simp only [rS,Env.get?] at h;split at h
  ·rename_i he
   have:=ae0 he;subst this;cases h;exact ⟨u,by rw [af0 ag];simp [aA],hu⟩
  ·obtain ⟨jS,U,ad⟩:=aX (k+1) us (pre++[u]) (by simp [aA]) aL t v h
   exact ⟨jS,by simpa using U,ad⟩
theorem Kept.sub {s ak eN:al} {w w':World} {p bj:bU} (h:Kept s ak w p w' bj) (ar:al.Sub eN ak):Kept s eN w p w' bj :=
 ⟨h.heap,fun b an az=>ar.none (h.kR b an az),h.lk⟩
theorem hh.yd (aQ:bO P Γ) {f:FuncId} {fn:Func} {c:Code} {args:List af} {s:al} {R:ey→al→Prop} (aF:te P f) (a7:P.funcs[f]? = some fn) (an:fn.body=some c)
  (aT:ao5 args.length fn.ntmps=true) (h:ae P fn.ntmps c (Fin Γ fn.results.toList R) (rS 0 args) s):hh P f args s R:=by
 refine ⟨aF,fun w p vs cg eO=>RR a7 an fun b rP eZ=>?_⟩;have hle:=ao4 aT;have aE:=eO.length;have b':(vs.toArray++al3 (fn.ntmps-vs.toArray.size) undef).size=fn.ntmps:=by simp;omega
 have aJ:dx fn.ntmps (w.heap.size,[]) b.roundOf (rS 0 args) s { tmps:=vs.toArray++al3 (fn.ntmps-vs.toArray.size) undef,defers:=[] } w p:=by
  refine ⟨b',fun t v au=>?_,cg,⟨[],rfl,by simp,by simp⟩,fun l aE=>(by rw [rP] at aE;cases aE),g9 _⟩;obtain ⟨u,hu,aC⟩:=Tb 0 args vs [] rfl eO t v au;simp only [d8] at hu;have aw:=(t7.1 hu).1;have:(vs.toArray++al3 (fn.ntmps-vs.toArray.size) undef).getD t undef=u:=by
   rw [ag4,at6 (by simpa using aw)];simp [hu]
  rw [this];exact aC
 refine mh (h b (w.heap.size,[]) _ w p eZ aJ) ?_;rintro e c8 w' ⟨x,eX,ak,bj,ab,bk,hM,Ad,aA⟩;obtain ⟨cf,tf,eM,dP⟩:=hM.defs;rw [List.append_nil] at tf;obtain ⟨cd,b1,ek,j8⟩:=F9 cf w' hM.wf (fun d ay=>⟨_,(dP d ay).2.1⟩);have bf:Kept s ak w p (hr w' cf) bj:=⟨fun aW dR az=>(ek aW (fun hm=>by have:=(dP aW hm).1;omega)).trans (aA.heap aW dR az),aA.kR,aA.lk⟩;have bM:dc w p (hr w' cf) bj:=Ad.trans cd;have fin:(∃ r r' eN,n7 Γ eX ak fn.results.toList=some r∧aU r r'∧al.Sub eN ak∧R (.ret r') eN) →
   ∃ cf,c8.defers=marksOf cf∧cf.Nodup∧(∀ d∈cf,w'.heap[d]? = some (.deferred (some [])))∧∃ v,(results fn c8.tmps).run P (hr w' cf) = .ok v (hr w' cf)∧we s w p R (.returned v) (hr w' cf):=by
  rintro ⟨r,r',eN,aC,ye,fX,dB⟩;obtain ⟨val,cO,eT⟩:=S' aQ hM j8 (fun v x h=>h.mono cd) aC;exact ⟨cf,tf,eM,fun d ay=>(dP d ay).2.1,val,cO,.ret r',eN,bj,ye _ _ _ eT,dB,bM,bf.sub fX,b1.sub fX⟩
 cases ab with
 | normal=>exact fin bk
 | ret=>exact fin bk
 | exit id=>exact bk.elim
 | panic v x dA kT au=>
  obtain ⟨fx,eN,ye,fX,dB⟩:=bk;exact ⟨cf,tf,eM,fun d ay=>(dP d ay).2.1,.panic fx,eN,bj,⟨v,kT,ye _ _ _ (au.mono cd)⟩,dB,bM,bf.sub fX,b1.sub fX⟩
end
def aa (P:Program) (N:Nat) (ops:Array Oper) (l:List Oper) (Q:b6→Env→al→Prop) (env:Env) (s:al):Prop:=
 ∀ k,(∀ j x,l[j]? = some x→ops[k+j]? = some x)→fI P N ops (ay0 k l.length) Q env s
section
variable {P:Program} {Γ:cy} {N:Nat} {ops:Array Oper} {Q:b6→Env→al→Prop} {env:Env} {s:al} {l:List Oper} {o:Oper} {d:Nat}
theorem ae.cJ {id:Nat} {l:List Oper} (h:aa P N l.toArray l Q env s):ae P N (.region id l.toArray false) Q env s:=by
 refine ae.region ?_;have:=h 0 ba;rw [List.range_eq_range'];simpa using this
theorem aa.nil (h:Q .normal env s):aa P N ops [] Q env s:=fun _ _=>fI.nil h
theorem aa.cons (h:∀ k,ops[k]? = some o→aa P N ops l Q env s∨True→(∀ j x,l[j]? = some x→ops[k+1+j]? = some x)→fI P N ops (k::ay0 (k+1) l.length) Q env s):aa P N ops (o::l) Q env s:=by
 intro k aA;have bu:ops[k]? = some o:=aA 0 o C;have aL:∀ j x,l[j]? = some x→ops[k+1+j]? = some x:=fun j x ab=>by have:=aA (j+1) x uj;simpa [an9,aq1 1 j] using this
 rw [i0,ax0];exact h k bu (.inr trivial) aL
theorem aa.op {K X:af→al→Prop} (av:guardOf ops env o=some true) (ay:o.dst=some d) (aT:aa' d N=true) (h:a6 P N o env s K X)
  (aA:∀ x ak,K x ak→aa P N ops l Q ((d,x)::env) ak) (ab:∀ x ak,X x ak→Q (.panic x) env ak):aa P N ops (o::l) Q env s:=
 aa.cons fun k bu _ aL=>fI.op bu av ay aT h (fun x ak bf=>aA x ak bf (k+1) aL) ab
theorem aa.vP {K X:af→al→Prop} (av:guardOf ops env o=some true) (ay:o.dst=none) (h:a6 P N o env s K X)
  (aA:∀ x ak,K x ak→aa P N ops l Q env ak) (ab:∀ x ak,X x ak→Q (.panic x) env ak):aa P N ops (o::l) Q env s:=
 aa.cons fun k bu _ aL=>fI.vP bu av ay h (fun x ak bf=>aA x ak bf (k+1) aL) ab
theorem aa.skip (av:guardOf ops env o=some false) (ay:o.dst=some d) (aT:aa' d N=true) (h:aa P N ops l Q ((d,.cu [])::env) s):aa P N ops (o::l) Q env s:=
 aa.cons fun k bu _ aL=>fI.skip bu av ay aT (h (k+1) aL)
theorem aa.step (aQ:bO P Γ) {v:af} (av:guardOf ops env o=some true) (ay:o.dst=some d) (aT:aa' d N=true) (au:pL Γ o env=some v) (h:aa P N ops l Q ((d,v)::env) s) :
  aa P N ops (o::l) Q env s:=
 aa.op av ay aT (a6.pL aQ au) (fun x ak ⟨U,ad⟩=>by subst U;subst ad;exact h) (fun _ _ h=>h.elim)
theorem aa.pure (aQ:bO P Γ) {v:af} (av:guardOf ops env o=some true) (ay:o.dst=some d) (aT:aa' d N=true) (au:lT Γ o env v) (h:aa P N ops l Q ((d,v)::env) s) :
  aa P N ops (o::l) Q env s:=
 aa.op av ay aT (a6.pure aQ au) (fun x ak ⟨U,ad⟩=>by subst U;subst ad;exact h) (fun _ _ h=>h.elim)
theorem aa.iw (aQ:bO P Γ) {v:af} (av:guardOf ops env o=some true) (ay:o.dst=some d) (aT:aa' d N=true) (au:wg Γ o env=some v) (h:aa P N ops l Q ((d,v)::env) s) :
  aa P N ops (o::l) Q env s:=aa.pure aQ av ay aT (.x au) h
theorem aa.call {f:FuncId} {as:Array Operand} {c3:Array TypeId} {xs:List af} {R:ey→al→Prop} (av:guardOf ops env o=some true) (ay:o.dst=some d) (aT:aa' d N=true)
  (bY:o.op = .call { callee := .value (.func f),args:=as,argTypes:=c3 }) (aR:fP env as.toList=some xs) (h:hh P f xs s R)
  (aA:∀ x ak,R (.ret x) ak→aa P N ops l Q ((d,x)::env) ak) (ab:∀ x ak,R (.panic x) ak→Q (.panic x) env ak):aa P N ops (o::l) Q env s:=
 aa.op av ay aT (a6.call bY (fv := .func f [] []) C aR (hO.fk fV)) aA ab
theorem aa.KX {f:FuncId} {as:Array Operand} {c3:Array TypeId} {xs:List af} {v:af} (av:guardOf ops env o=some true) (ay:o.dst=some d) (aT:aa' d N=true)
  (bY:o.op = .call { callee := .value (.func f),args:=as,argTypes:=c3 }) (aR:fP env as.toList=some xs) (h:hh P f xs s (fun out ak=>out = .ret v∧ak=s))
  (aA:aa P N ops l Q ((d,v)::env) s):aa P N ops (o::l) Q env s:=
 aa.call av ay aT bY aR h (fun x ak ⟨U,ad⟩=>by cases U;subst ad;exact aA) (fun x ak ⟨U,_⟩=>by cases U)
theorem aa.F6 {g:Operand} {fv:af} {as:Array Operand} {c3:Array TypeId} {xs:List af} {R:ey→al→Prop} (av:guardOf ops env o=some true) (ay:o.dst=some d) (aT:aa' d N=true)
  (bY:o.op = .call { callee := .value g,args:=as,argTypes:=c3 }) (au:aK env g=some fv) (aR:fP env as.toList=some xs) (h:hO P fv xs s R)
  (aA:∀ x ak,R (.ret x) ak→aa P N ops l Q ((d,x)::env) ak) (ab:∀ x ak,R (.panic x) ak→Q (.panic x) env ak):aa P N ops (o::l) Q env s:=
 aa.op av ay aT (a6.call bY au aR h) aA ab
theorem aa.idx (aQ:bO P Γ) {t e:TypeId} {x y:Operand} {it aG:bN} {sz:Nat} {xs:List af} {own:bQ} {k:IntKind} {i:Int} {v:af} {cs:List af} (j:Nat) (av:guardOf ops env o=some true) (ay:o.dst=some d)
  (aT:aa' d N=true) (ah:o.op = .indexAddr t x y) (aL:Γ.get? t=some it) (bq:it.bH = .aB e) (bL:Γ.get? e=some aG) (ab:aK env x=some (.aB sz xs own)) (b':sz=aG.size) (ax:aK env y=some (.int k i))
  (eR:i=(j:Int)) (aH:xs[j]? = some v) (aF:cellsOf v=some cs) (h:aa P N ops l Q ((d,.br cs 0)::env) s):aa P N ops (o::l) Q env s:=
 aa.pure aQ av ay aT (.idx j ah aL bq bL ab b' ax eR aH aF) h
theorem aa.Ab (aQ:bO P Γ) {t:TypeId} {x y:Operand} {it:bN} {cs:List UInt8} {k:IntKind} {i:Int} {b:UInt8} (j:Nat) (av:guardOf ops env o=some true) (ay:o.dst=some d)
  (aT:aa' d N=true) (ah:o.op = .index t x y) (aL:Γ.get? t=some it) (bq:it.bH = .str) (ab:aK env x=some (.str cs)) (ax:aK env y=some (.int k i))
  (eR:i=(j:Int)) (aH:cs[j]? = some b) (h:aa P N ops l Q ((d,.int .u8 b.toNat)::env) s):aa P N ops (o::l) Q env s:=
 aa.pure aQ av ay aT (.Ab j ah aL bq ab ax eR aH) h
theorem aa.cat (aQ:bO P Γ) {t yt:TypeId} {x y:Operand} {u v:List UInt8} (av:guardOf ops env o=some true) (ay:o.dst=some d) (aT:aa' d N=true) (ah:o.op = .binOp .add t x y yt)
  (ab:aK env x=some (.str u)) (ax:aK env y=some (.str v)) (aE:u.length+v.length≤9223372036854775807) (h:aa P N ops l Q ((d,.str (u++v))::env) s):aa P N ops (o::l) Q env s:=
 aa.pure aQ av ay aT (.cat ah ab ax aE) h
theorem aa.toStr (aQ:bO P Γ) {jR Ae e:TypeId} {x:Operand} {is id aG:bN} {sz:Nat} {u:List UInt8} {own:bQ} (av:guardOf ops env o=some true) (ay:o.dst=some d) (aT:aa' d N=true) (ah:o.op = .convert jR Ae x)
  (ar:Γ.get? jR=some is) (F':Γ.get? Ae=some id) (kz:is.bH = .aB e) (nB:id.bH = .str) (he:Γ.get? e=some aG) (oZ:aG.bH = .int .u8) (ab:aK env x=some (.aB sz (n5 u) own))
  (h:aa P N ops l Q ((d,.str u)::env) s):aa P N ops (o::l) Q env s:=aa.pure aQ av ay aT (.toStr ah ar F' kz nB he oZ ab) h
theorem aa.CW (aQ:bO P Γ) {jR Ae e:TypeId} {x:Operand} {is id aG:bN} {u:List UInt8} (av:guardOf ops env o=some true) (ay:o.dst=some d) (aT:aa' d N=true) (ah:o.op = .convert jR Ae x)
  (ar:Γ.get? jR=some is) (F':Γ.get? Ae=some id) (kz:is.bH = .str) (nB:id.bH = .aB e) (he:Γ.get? e=some aG) (oZ:aG.bH = .int .u8) (ab:aK env x=some (.str u)) (F8:u.length≤9223372036854775807)
  (h:aa P N ops l Q ((d,.aB 1 (n5 u) .bc)::env) s):aa P N ops (o::l) Q env s:=aa.pure aQ av ay aT (.CW ah ar F' kz nB he oZ ab F8) h
theorem aa.slice (aQ:bO P Γ) {t e:TypeId} {x:Operand} {en aN jm:Option Operand} {it aG:bN} {sz:Nat} {xs:List af} {own cS:bQ} (a b:Nat) (av:guardOf ops env o=some true) (ay:o.dst=some d)
  (aT:aa' d N=true) (ah:o.op = .slice t x en aN jm)
  (aL:Γ.get? t=some it) (bq:it.bH = .aB e) (bL:Γ.get? e=some aG) (ab:aK env x=some (.aB sz xs own)) (b':xs=[]∨sz=aG.size)
  (iL:(en=none∧a=0)∨∃ y k,en=some y∧aK env y=some (.int k (a:Int))) (qK:(aN=none∧jm=none∧b=xs.length)∨∃ y k,aN=some y∧aK env y=some (.int k (b:Int)))
  (nz:(jm=none∧cS = .bc)∨(∃ y k,jm=some y∧aK env y=some (.int k (b:Int))∧cS = .clip)) (aE:a≤b) (cY:b≤xs.length) (h:aa P N ops l Q ((d,.aB sz ((xs.take b).drop a) cS)::env) s):aa P N ops (o::l) Q env s:=
 aa.pure aQ av ay aT (.slice a b ah aL bq bL ab b' iL qK nz aE cY) h
theorem aa.freeze (t b:Nat) {T:TypeId} {cs:List af} (aL:env.get? t=some (.ptr b 0)) (ar:s b=some (.box T cs)) (h:aa P N ops l Q ((t,.br cs 0)::env) (s.del b)):aa P N ops l Q env s:=
 fun k aA=>fI.freeze t b aL ar (h k aA)
theorem b4 {next:Env→al→Prop} (h:next env s):b6.andThen next Q .normal env s:=h
end
def qM (ops:Array Oper) (i j:Nat):Prop:=∃ o e,ops[i]? = some o∧e∈o.after∧Region.binds .any e=true∧e.on=j
inductive lq (ops:Array Oper):Nat→Nat→Prop
 | dep {i j:Nat} (h:qM ops i j):lq ops i j
 | trans {i j k:Nat} (h:qM ops i j) (t:lq ops j k):lq ops i k
def wj (ops:Array Oper) (D:Nat→Bool):Prop:=∀ i j,D i=true→qM ops i j→D j=true
theorem wj.qN {ops:Array Oper} {D:Nat→Bool} (h:wj ops D) {i j:Nat} (aN:D i=true) (aR:lq ops i j):D j=true:=by
 induction aR with
 | dep ay=>exact h _ _ aN ay
 | trans ay _ aX=>exact aX (h _ _ aN ay)
def ea (D:Nat→Bool) (i:Nat):Nat→Bool:=fun j=>if j=i then true else D j
theorem mT (D:Nat→Bool) (i:Nat):ea D i i=true:=by simp [ea]
theorem jT (D:Nat→Bool) {i j:Nat} (h:j≠i):ea D i j=D j:=by simp [ea,h]
theorem wk {D:Nat→Bool} {i j:Nat} (h:D j=true):ea D i j=true:=by unfold ea;split<;>simp_all
def hi (ops:Array Oper) (D:Nat→Bool) (i:Nat):Prop:=i<ops.size∧D i=false∧∀ j,qM ops i j→D j=true
theorem wj.ea {ops:Array Oper} {D:Nat→Bool} (h:wj ops D) {i:Nat} (aC:hi ops D i):wj ops (ea D i):=by
 intro a b aR ay;by_cases e:a=i
 ·subst e;exact wk (aC.2.2 b ay)
 ·rw [jT _ e] at aR;exact wk (h a b aR ay)
def looks (ops:Array Oper) (o:Oper):List Tmp:=
  (match o.guard with
   | some (g,_)=>match (ops[g]?).bind (·.dst) with
     | some d=>[d]
     | none=>[]
   | none=>[])++o.op.operands.toList.filterMap fun | .tmp t=>some t|_=>none
def ix (env:Env):List Tmp→Env
  | []=>[]
  | t::gl=>match env.get? t with
    | some v=>(t,v)::ix env gl
    | none=>ix env gl
abbrev b2 (l:List Oper) (env:Env) (o:Oper):Env:=ix env (looks l.toArray o)
abbrev c4 (l:List Oper) (env:Env) (o:Oper):Prop:=guardOf l.toArray (ix env (looks l.toArray o)) o=some true
theorem KY {env:Env} {gl:List Tmp} {t:Tmp} {v:af} (h:(ix env gl).get? t=some v):env.get? t=some v∧t∈gl:=by
 induction gl with
 | nil=>simp [ix,Env.get?] at h
 | cons u gl aX=>
  simp only [ix] at h;split at h
  ·rename_i x ab
   simp only [Env.get?] at h;split at h
   ·rename_i he
    have:=ae0 he;subst this;cases h;exact ⟨ab,i8 ..⟩
   ·exact ⟨(aX h).1,i6 _ (aX h).2⟩
  ·exact ⟨(aX h).1,i6 _ (aX h).2⟩
def Still (J:al→Prop) (P:Program) (Γ:cy) (N:Nat) (ops:Array Oper) (o:Oper) (E:Env) (v:af):Prop:=
 (guardOf ops E o=some true∧lT Γ o E v)∨(guardOf ops E o=some false∧v = .cu []) ∨
  (guardOf ops E o=some true∧∀ s,J s→a6 P N o E s (fun x ak=>x=v∧ak=s) (fun _ _=>False))
structure uG (ops:Array Oper):Prop where
 uniq:∀ (i j:Nat) (x y:Oper) (d:Tmp),ops[i]? = some x→ops[j]? = some y→x.dst=some d→y.dst=some d→i=j
 apart:∀ (i j:Nat) (x y:Oper) (d:Tmp),i≠j→ops[i]? = some x→ops[j]? = some y→x.dst=some d→d∈looks ops y→lq ops i j∨lq ops j i
 back:∀ i j,qM ops i j→j<i
 own:∀ (i:Nat) (x:Oper) (d:Tmp),ops[i]? = some x→x.dst=some d→d∉looks ops x
inductive o0 (P:Program) (Γ:cy) (N:Nat) (ops:Array Oper) (Q:b6→Env→al→Prop):(al→Prop)→(Nat→Bool)→Env→al→Prop
 | congr {J:al→Prop} {D:Nat→Bool} {env:Env} {s:al} (e:Env) (he:∀ t,e.get? t=env.get? t) (h:o0 P Γ N ops Q J D e s):o0 P Γ N ops Q J D env s
 | fin {J:al→Prop} {D:Nat→Bool} {env:Env} {s:al} (dP:∀ i,i<ops.size→D i=true) (h:Q .normal env s):o0 P Γ N ops Q J D env s
 | still {J:al→Prop} {D:Nat→Bool} {env:Env} {s:al} (cL:J s) (i:Nat) (o:Oper) (d:Tmp) (v:af) (aC:hi ops D i) (ah:ops[i]? = some o) (ay:o.dst=some d) (aT:d<N)
   (au:Still J P Γ N ops o (ix env (looks ops o)) v) (h:o0 P Γ N ops Q J (ea D i) ((d,v)::env) s):o0 P Γ N ops Q J D env s
 | split {J:al→Prop} {D:Nat→Bool} {env:Env} {s:al} (K X:Nat→af→al→Prop) (wm:Nat→af→al→al→Prop) (cE:∃ i,i<ops.size∧D i=false)
   (av:∀ i o,hi ops D i→ops[i]? = some o→guardOf ops (ix env (looks ops o)) o=some true∧a6 P N o (ix env (looks ops o)) s (K i) (X i)∧∀ d,o.dst=some d→d<N)
   (aH:∀ i o,hi ops D i→ops[i]? = some o→∀ x ak,K i x ak→(wm i x ak=J∧J ak)∨∀ j,j<ops.size→D j=true→j≠i→lq ops i j)
   (aA:∀ i o d,hi ops D i→ops[i]? = some o→o.dst=some d→∀ x ak,K i x ak→o0 P Γ N ops Q (wm i x ak) (ea D i) ((d,x)::env) ak)
   (lr:∀ i o,hi ops D i→ops[i]? = some o→o.dst=none→∀ x ak,K i x ak→o0 P Γ N ops Q (wm i x ak) (ea D i) env ak)
   (ab:∀ i o,hi ops D i→ops[i]? = some o→∀ x ak,X i x ak→Q (.panic x) [] ak):o0 P Γ N ops Q J D env s
abbrev bm (J:al→Prop) (P:Program) (Γ:cy) (N:Nat) (ops:Array Oper) (Q:b6→Env→al→Prop) (D:Nat→Bool) (env:Env) (s:al):Prop:=o0 P Γ N ops Q J D env s
section
variable {J:al→Prop} {P:Program} {Γ:cy} {N:Nat} {ops:Array Oper} {Q:b6→Env→al→Prop} {D:Nat→Bool} {env:Env} {s:al}
theorem bm.congr (e:Env) (he:∀ t,e.get? t=env.get? t) (h:bm J P Γ N ops Q D e s):bm J P Γ N ops Q D env s:=o0.congr e he h
theorem bm.fin (dP:∀ i,i<ops.size→D i=true) (h:Q .normal env s):bm J P Γ N ops Q D env s:=o0.fin dP h
theorem bm.still (cL:J s) (i:Nat) (o:Oper) (d:Tmp) (v:af) (aC:hi ops D i) (ah:ops[i]? = some o) (ay:o.dst=some d) (aT:d<N)
  (au:Still J P Γ N ops o (ix env (looks ops o)) v) (h:bm J P Γ N ops Q (ea D i) ((d,v)::env) s):bm J P Γ N ops Q D env s:=o0.still cL i o d v aC ah ay aT au h
theorem bm.split (K X:Nat→af→al→Prop) (cE:∃ i,i<ops.size∧D i=false)
  (av:∀ i o,hi ops D i→ops[i]? = some o→guardOf ops (ix env (looks ops o)) o=some true∧a6 P N o (ix env (looks ops o)) s (K i) (X i)∧∀ d,o.dst=some d→d<N)
  (aH:∀ i o,hi ops D i→ops[i]? = some o→∀ x ak,K i x ak→J ak∨∀ j,j<ops.size→j≠i→lq ops i j)
  (aA:∀ i o d,hi ops D i→ops[i]? = some o→o.dst=some d→∀ x ak,K i x ak→bm J P Γ N ops Q (ea D i) ((d,x)::env) ak)
  (lr:∀ i o,hi ops D i→ops[i]? = some o→o.dst=none→∀ x ak,K i x ak→bm J P Γ N ops Q (ea D i) env ak)
  (ab:∀ i o,hi ops D i→ops[i]? = some o→∀ x ak,X i x ak→Q (.panic x) [] ak):bm J P Γ N ops Q D env s:=
 o0.split K X (fun _ _ _=>J) cE av (fun i o U ad x ak aj=>(aH i o U ad x ak aj).imp (fun h=>⟨rfl,h⟩) (fun h j a' _ bz=>h j a' bz)) aA lr ab
end
def nC:al→Prop:=fun _=>True
abbrev bd (P:Program) (Γ:cy) (N:Nat) (ops:Array Oper) (Q:b6→Env→al→Prop) (D:Nat→Bool) (env:Env) (s:al):Prop:=bm nC P Γ N ops Q D env s
structure kW (J:al→Prop) (P:Program) (Γ:cy) (N:Nat) (B:fO) (ro:Option Nat) (ops:Array Oper) (D L:Nat→Bool) (V:Nat→af) (E:Nat→Env) (env:Env) (s:al) (a:Act) (w:World) (p:bU):Prop where
 sub:∀ i,L i=true→D i=true
 rT:wj ops D
 qO:wj ops L
 st:dx N B ro [] s a w p
 known:∀ t v,env.get? t=some v→(∃ k o,D k=true∧L k=false∧ops[k]? = some o∧o.dst=some t)∨Rel w p (a.tmps.getD t undef) v
 wo:∀ i o,D i=true→L i=false→ops[i]? = some o→∃ d,o.dst=some d∧d<N∧env.get? d=some (V i)∧Still J P Γ N ops o (E i) (V i) ∧
  (∀ t x,(E i).get? t=some x→t∈looks ops o∧(∀ k u,ops[k]? = some u→u.dst=some t→lq ops i k→L k=false→x=V k) ∧
   ((∀ k u,ops[k]? = some u→u.dst=some t→lq ops i k→L k=true)→Rel w p (a.tmps.getD t undef) x))
 bound:∀ i,D i=true→i<ops.size
 inv:(∀ i,D i=true→L i=true)∨J s
theorem dx.restrict {N:Nat} {B:fO} {ro:Option Nat} {env:Env} {s:al} {a:Act} {w:World} {p:bU} (h:dx N B ro env s a w p) (e:Env) (he:∀ t v,e.get? t=some v→Rel w p (a.tmps.getD t undef) v) :
  dx N B ro e s a w p:=⟨h.size,he,h.wf,h.defs,h.round,h.base⟩
section
variable {J:al→Prop} {P:Program} {Γ:cy} {N:Nat} {ops:Array Oper} {Q:b6→Env→al→Prop}
theorem kW.ahead (dD:uG ops) {B:fO} {ro:Option Nat} {D L:Nat→Bool} {V:Nat→af} {E:Nat→Env} {env:Env} {s:al} {a:Act} {w:World} {p:bU}
  (h:kW J P Γ N B ro ops D L V E env s a w p) {i:Nat} {o:Oper} {d:Tmp} {v:af} (aC:hi ops D i) (ah:ops[i]? = some o) (ay:o.dst=some d) (aT:d<N)
  (cL:J s) (au:Still J P Γ N ops o (ix env (looks ops o)) v) :
  kW J P Γ N B ro ops (ea D i) L (fun j=>if j=i then v else V j) (fun j=>if j=i then ix env (looks ops o) else E j) ((d,v)::env) s a w p:=by
 have Tc:L i=false:=by
  cases aE:L i with
  | false=>rfl
  | true=>have:=h.sub i aE;rw [aC.2.1] at this;cases this
 refine ⟨fun j aH=>wk (h.sub j aH),h.rT.ea aC,h.qO,h.st,fun t x ab=>?_,fun j u aH mU hu=>?_,fun j aH=>?_,.inr cL⟩
 ·simp only [Env.get?] at ab
  split at ab
  ·rename_i he
   have:=ae0 he;subst this;exact .inl ⟨i,o,mT _ _,Tc,ah,ay⟩
  ·rcases h.known t x ab with ⟨k,u,U,ad,aj,a'⟩|eT
   ·exact .inl ⟨k,u,wk U,ad,aj,a'⟩
   ·exact .inr eT
 ·by_cases e:j=i
  ·subst e
   rw [ah] at hu;cases hu;refine ⟨d,ay,aT,by simp [Env.get?],?_,?_⟩
   ·simpa using au
   ·intro t x ab
    simp only [ag7] at ab;obtain ⟨jo,qP⟩:=KY ab;refine ⟨qP,fun k u aA lu h6 o1=>?_,fun fJ=>?_⟩
    ·have cE:k≠j:=fun e'=>by
      subst e';rw [ah] at aA;cases aA;rw [ay] at lu;cases lu;exact dD.own _ _ _ ah ay qP
     rw [d9 cE];have Td:D k=true:=by
      have:=(h.rT.ea aC).qN (mT D j) h6;rwa [jT _ cE] at this
     obtain ⟨c2,cd,b1,ek,-⟩:=h.wo k u Td o1 aA;rw [lu] at cd;cases cd;rw [jo] at ek;cases ek;rfl
    ·rcases h.known t x jo with ⟨k,u,U,ad,aj,a'⟩|eT
     ·have cE:k≠j:=fun e'=>by subst e';rw [aC.2.1] at U;cases U
      rcases dD.apart k j u o t cE aj ah a' qP with h6|h6
      ·have:=h.rT.qN U h6;rw [aC.2.1] at this;cases this
      ·have:=fJ k u aj a' h6;rw [ad] at this;cases this
     ·exact eT
  ·rw [jT _ e] at aH
   obtain ⟨c2,cd,b1,ek,j8,tg⟩:=h.wo j u aH mU hu;have nB:d≠c2:=fun e'=>by subst e';exact e (dD.uniq j i u o d hu ah cd ay)
   refine ⟨c2,cd,b1,?_,?_,?_⟩
   ·simp only [Env.get?,d9 e]
    have:af2 d c2=false:=by
     cases an:af2 d c2 with
     | false=>rfl
     | true=>exact absurd (ae0 an) nB
    simp [this,ek]
   ·simpa [e] using j8
   ·intro t x ab
    simp only [d9 e] at ab;obtain ⟨f1,f2,f3⟩:=tg t x ab;refine ⟨f1,fun k jS aA lu h6 o1=>?_,f3⟩;have cE:k≠i:=fun e'=>by
     subst e';have:=h.rT.qN aH h6;rw [aC.2.1] at this;cases this
    rw [d9 cE];exact f2 k jS aA lu h6 o1
 ·by_cases e:j=i
  ·subst e;exact aC.1
  ·rw [jT _ e] at aH;exact h.bound j aH
theorem kW.Te (dD:uG ops) {B:fO} {ro:Option Nat} {D L:Nat→Bool} {V:Nat→af} {E:Nat→Env} {env:Env} {s:al} {a:Act} {w w':World} {p bj:bU}
  (h:kW J P Γ N B ro ops D L V E env s a w p) {i:Nat} {o:Oper} {d:Tmp} {val:Value} (aC:hi ops L i) (dP:D i=true) (ah:ops[i]? = some o) (ay:o.dst=some d)
  (hle:dc w p w' bj) (aA:Kept s s w p w' bj) (cg:dq w' bj s) (oY:Rel w' bj val (V i)):kW J P Γ N B ro ops D (ea L i) V E env s (a.put (some d) val) w' bj:=by
 obtain ⟨c2,cq,nq,CX,KZ,eB⟩:=h.wo i o dP aC.2.1 ah;rw [ay] at cq;cases cq;have hM:=h.st.step hle aA cg;have Af:=hM.put nq oY;have ka:∀ t,t≠d→(a.put (some d) val).tmps.getD t undef=a.tmps.getD t undef:=fun t aL=>by
  simp only [Act.put,ag4,ag9,d9 (fun e:d=t=>aL e.symm)]
 have CY:(a.put (some d) val).tmps.getD d undef=val:=by
  have:d<a.tmps.size:=by rw [h.st.size];exact nq
  simp [Act.put,ag4,ag9,this]
 refine ⟨fun j aH=>?_,h.rT,h.qO.ea aC,Af.restrict [] (by simp [Env.get?]),fun t x ab=>?_,fun j u aH mU hu=>?_,h.bound,h.inv.imp (fun q j aH=>wk (q j aH)) id⟩
 ·by_cases e:j=i
  ·subst e;exact dP
  ·rw [jT _ e] at aH;exact h.sub j aH
 ·by_cases e:t=d
  ·subst e
   rw [CX] at ab;cases ab;exact .inr (by rw [CY];exact oY)
  ·rcases h.known t x ab with ⟨k,u,U,ad,aj,a'⟩|eT
   ·have cE:k≠i:=fun e'=>by subst e';rw [ah] at aj;cases aj;rw [ay] at a';cases a';exact e C
    exact .inl ⟨k,u,U,by rw [jT _ cE];exact ad,aj,a'⟩
   ·exact .inr (by rw [ka t e];exact eT.mono hle)
 ·have cE:j≠i:=fun e=>by subst e;rw [mT] at mU;cases mU
  rw [jT _ cE] at mU;obtain ⟨c2,cd,b1,ek,j8,tg⟩:=h.wo j u aH mU hu;refine ⟨c2,cd,b1,ek,j8,fun t x ab=>?_⟩;obtain ⟨f1,f2,f3⟩:=tg t x ab;refine ⟨f1,fun k jS eF lu h6 o1=>?_,fun fJ=>?_⟩
  ·have th:k≠i:=fun e=>by subst e;rw [mT] at o1;cases o1
   rw [jT _ th] at o1;exact f2 k jS eF lu h6 o1
  ·by_cases e:t=d
   ·subst e
    rcases dD.apart i j o u t (Ne.symm cE) ah hu ay f1 with h6|h6
    ·have:=h.qO.ea aC |>.qN (mT L i) h6
     rw [jT _ cE] at this;rw [mU] at this;cases this
    ·have:=f2 i o ah ay h6 aC.2.1
     subst this;rw [CY];exact oY
   ·rw [ka t e]
    refine (f3 fun k jS eF lu h6=>?_).mono hle;have th:k≠i:=fun e'=>by subst e';rw [ah] at eF;cases eF;rw [ay] at lu;cases lu;exact e C
    have:=fJ k jS eF lu h6;rwa [jT _ th] at this
theorem kW.ready (dD:uG ops) {B:fO} {ro:Option Nat} {D L:Nat→Bool} {V:Nat→af} {E:Nat→Env} {env:Env} {s:al} {a:Act} {w:World} {p:bU}
  (h:kW J P Γ N B ro ops D L V E env s a w p) {i:Nat} {o:Oper} (aC:hi ops L i) (dP:D i=false) (ah:ops[i]? = some o) :
  hi ops D i∧dx N B ro (ix env (looks ops o)) s a w p:=by
 refine ⟨⟨aC.1,dP,fun j aH=>h.sub j (aC.2.2 j aH)⟩,h.st.restrict _ fun t v au=>?_⟩;obtain ⟨U,ad⟩:=KY au;rcases h.known t v U with ⟨k,u,g1,g2,g3,g4⟩|eT
 ·have cE:k≠i:=fun e=>by subst e;rw [dP] at g1;cases g1
  rcases dD.apart k i u o t cE g3 ah g4 ad with h6|h6
  ·have:=h.rT.qN g1 h6;rw [dP] at this;cases this
  ·have:=(h.qO.ea aC).qN (mT L i) h6
   rw [jT _ cE,g2] at this;cases this
 ·exact eT
theorem kW.both (dD:uG ops) {B:fO} {ro:Option Nat} {D L:Nat→Bool} {V:Nat→af} {E:Nat→Env} {env:Env} {s ak:al} {a:Act} {w w':World} {p bj:bU}
  (h:kW J P Γ N B ro ops D L V E env s a w p) {i:Nat} {o:Oper} {val:Value} {x:af} (aC:hi ops L i) (pT:hi ops D i) (ah:ops[i]? = some o) (nq:∀ d,o.dst=some d→d<N)
  (hle:dc w p w' bj) (aA:Kept s ak w p w' bj) (cg:dq w' bj ak) (oY:Rel w' bj val x) (cL:J ak∨∀ j,j<ops.size→D j=true→j≠i→lq ops i j) :
  kW J P Γ N B ro ops (ea D i) (ea L i) V E (match o.dst with|some d=>(d,x)::env|none=>env) ak (a.put o.dst val) w' bj:=by
 have hM:=h.st.step hle aA cg;have ka:∀ t,o.dst≠some t→(a.put o.dst val).tmps.getD t undef=a.tmps.getD t undef:=fun t aL=>by
  cases ay:o.dst with
  | none=>rfl
  | some d=>
   have:d≠t:=fun e=>aL (by rw [ay,e])
   simp only [Act.put,ag4,ag9,d9 this]
 have CY:∀ d,o.dst=some d→(a.put o.dst val).tmps.getD d undef=val:=fun d ay=>by
  have:d<a.tmps.size:=by rw [h.st.size];exact nq d ay
  simp [ay,Act.put,ag4,ag9,this]
 have Af:dx N B ro [] ak (a.put o.dst val) w' bj:=by
  cases ay:o.dst with
  | none=>exact hM
  | some d=>exact (hM.put (nq d ay) oY).restrict [] (by simp [Env.get?])
 refine ⟨fun j aH=>?_,h.rT.ea pT,h.qO.ea aC,Af,fun t y ax=>?_,fun j u aH mU hu=>?_,fun j aH=>?_,cL.symm.imp (fun q j aH=>?_) id⟩
 ·by_cases e:j=i
  ·subst e;exact mT _ _
  ·rw [jT _ e] at aH;exact wk (h.sub j aH)
 ·by_cases e:o.dst=some t
  ·simp only [e,Env.get?,au2,ag7] at ax
   cases ax;exact .inr (by rw [CY t e];exact oY)
  ·have c7:env.get? t=some y:=by
    cases ay:o.dst with
    | none=>rw [ay] at ax;exact ax
    | some d=>
     rw [ay] at ax e;simp only [Env.get?] at ax;have:af2 d t=false:=by
      cases an:af2 d t with
      | false=>rfl
      | true=>exact absurd (ae7 some (ae0 an)) e
     rw [this] at ax;simpa using ax
   rcases h.known t y c7 with ⟨k,u,U,ad,aj,a'⟩|eT
   ·have cE:k≠i:=fun e'=>by subst e';rw [ah] at aj;cases aj;exact e a'
    exact .inl ⟨k,u,wk U,by rw [jT _ cE];exact ad,aj,a'⟩
   ·exact .inr (by rw [ka t e];exact eT.mono hle)
 ·have cE:j≠i:=fun e=>by subst e;rw [mT] at mU;cases mU
  rw [jT _ cE] at mU aH;obtain ⟨c2,cd,b1,ek,j8,tg⟩:=h.wo j u aH mU hu;have Ag:o.dst≠some c2:=fun e=>cE (dD.uniq j i u o c2 hu ah cd e)
  refine ⟨c2,cd,b1,?_,j8,fun t y ax=>?_⟩
  ·cases ay:o.dst with
   | none=>exact ek
   | some d=>
    simp only [Env.get?];have:af2 d c2=false:=by
     cases an:af2 d c2 with
     | false=>rfl
     | true=>exact absurd (by rw [ay,ae0 an]) Ag
    rw [this];simpa using ek
  ·obtain ⟨f1,f2,f3⟩:=tg t y ax
   have K0:o.dst≠some t:=fun e=>by
    rcases dD.apart i j o u t (Ne.symm cE) ah hu e f1 with h6|h6
    ·have:=(h.qO.ea aC).qN (mT L i) h6
     rw [jT _ cE,mU] at this;cases this
    ·have:=h.rT.qN aH h6;rw [pT.2.1] at this;cases this
   refine ⟨f1,fun k jS eF lu h6 o1=>?_,fun fJ=>?_⟩
   ·have th:k≠i:=fun e=>by subst e;rw [mT] at o1;cases o1
    rw [jT _ th] at o1;exact f2 k jS eF lu h6 o1
   ·rw [ka t K0]
    refine (f3 fun k jS eF lu h6=>?_).mono hle;have th:k≠i:=fun e'=>by subst e';rw [ah] at eF;cases eF;exact K0 lu
    have:=fJ k jS eF lu h6;rwa [jT _ th] at this
 ·by_cases e:j=i
  ·subst e;exact aC.1
  ·rw [jT _ e] at aH;exact h.bound j aH
 ·by_cases e:j=i
  ·subst e;exact mT _ _
  ·rw [jT _ e] at aH
   exact (h.qO.ea aC).qN (mT L i) (q j (h.bound j aH) aH e)
theorem kW.Tf (dD:uG ops) {B:fO} {ro:Option Nat} {D L:Nat→Bool} {V:Nat→af} {E:Nat→Env} {env:Env} {s ak:al} {a:Act} {w w':World} {p bj:bU} {wm:al→Prop}
  (h:kW J P Γ N B ro ops D L V E env s a w p) {i:Nat} {o:Oper} {val:Value} {x:af} (aC:hi ops L i) (pT:hi ops D i) (ah:ops[i]? = some o) (nq:∀ d,o.dst=some d→d<N)
  (hle:dc w p w' bj) (aA:Kept s ak w p w' bj) (cg:dq w' bj ak) (oY:Rel w' bj val x) (cL:(wm=J∧J ak)∨∀ j,j<ops.size→D j=true→j≠i→lq ops i j) :
  kW wm P Γ N B ro ops (ea D i) (ea L i) V E (match o.dst with|some d=>(d,x)::env|none=>env) ak (a.put o.dst val) w' bj:=by
 rcases cL with ⟨rfl,cL⟩|fJ
 ·exact h.both dD aC pT ah nq hle aA cg oY (.inl cL)
 ·have eL:=h.both dD aC pT ah nq hle aA cg oY (.inr fJ)
  have left:∀ j,ea D i j=true→ea L i j=true:=fun j aH=>by
   by_cases e:j=i
   ·subst e;exact mT _ _
   ·rw [jT _ e] at aH
    exact (h.qO.ea aC).qN (mT L i) (fJ j (h.bound j aH) aH e)
  exact ⟨eL.sub,eL.rT,eL.qO,eL.st,eL.known,fun j u aH mU _=>(by rw [left j aH] at mU;cases mU),eL.bound,.inl left⟩
def jF (listed:Array Bool) (n:Nat):Nat→Bool:=fun i=>decide (i<n)&&listed.getD i true
theorem mem_ready {listed:Array Bool} (yf:∀ i j,qM ops i j→j<i) {i:Nat} (h:i∈Region.ready .any ops listed):hi ops (jF listed ops.size) i:=by
 unfold Region.ready at h;simp only [ae3,aj8,f9,ai0] at h;obtain ⟨aw,aE,fJ⟩:=h;refine ⟨aw,by simp only [jF,aE,Bool.and_false],fun j ⟨o,e,ah,he,an,aH⟩=>?_⟩;have ada:j<i:=yf i j ⟨o,e,ah,he,an,aH⟩;rw [ah] at fJ;simp only [ao2,ae',aA4] at fJ;have:=fJ e he;simp only [an,aj',ah1] at this;rw [aH] at this;have sW:j<ops.size:=by omega
 simp only [jF,sW,decide_true,f5];rw [ag4] at this ⊢;cases ab:listed[j]? with
 | none=>rfl
 | some b=>rw [ab] at this;simpa using this
theorem K1 {listed:Array Bool} (yf:∀ i j,qM ops i j→j<i) (az:Region.ready .any ops listed=[]) (b':listed.size=ops.size):∀ i,i<ops.size→jF listed ops.size i=true:=by
 intro i
 induction i using av2 with
 | _ i aX=>
  intro aN;cases aE:listed.getD i true with
  | true=>simp [jF,aN,aE]
  | false=>
   have gm:i∈Region.ready .any ops listed:=by
    unfold Region.ready;simp only [ae3,aj8,f9,ai0];refine ⟨aN,aE,?_⟩;have ah:ops[i]? = some ops[i]:=by simp
    rw [ah];simp only [ao2,ae',aA4];intro e he;cases an:Region.binds .any e with
    | false=>rfl
    | true=>
     simp only [aj',ah1];have aw:=yf i e.on ⟨_,e,ah,he,an,rfl⟩;have:=aX e.on aw ag;have cl:e.on<listed.size:=by omega
     simp only [jF,f9] at this;rw [ag4] at this ⊢;have Tg:listed[e.on]? = some listed[e.on]:=by simp [cl]
     rw [Tg] at this ⊢;simpa using this.2
   rw [az] at gm;cases gm
theorem Ga {listed:Array Bool} {i:Nat} (aN:i<ops.size) (b':listed.size=ops.size):jF (listed.setIfInBounds i true) ops.size=ea (jF listed ops.size) i:=by
 funext j;unfold jF ea;by_cases e:j=i
 ·subst e;simp [aN,b']
 ·have e':¬ i=j:=fun h=>e h.symm
  simp only [d9 e,ag4,ag9,d9 e']
theorem Th (aQ:bO P Γ) {B:fO} {ro:Option Nat} {E:Env} {s:al} {a:Act} {w:World} {p:bU} {o:Oper} {d:Tmp} {v:af} (ay:o.dst=some d) (aJ:dx N B ro E s a w p) (cL:J s) (h:Still J P Γ N ops o E v) {R:Ending→World→Prop} {S:Act→World→Prop}
  (I:∀ val w' bj,Rel w' bj val v→dc w p w' bj→Kept s s w p w' bj→dq w' bj s→S (a.put (some d) val) w') :
  (if Region.wanted o (yielded ops a.tmps)=true then gE o=true∧pJ P ((execOp a.eval o).run P w) (fun e w'=>match e with
   | .returned v=>S (a.put o.dst v) w'
   | .panicked dA=>R (.panicked dA) w'
   | .outgrown=>False) else S (a.put o.dst undef) w):=by
 rcases h with ⟨av,au⟩|⟨av,rfl⟩|⟨av,au⟩
 ·rw [g6 (vN aJ av)]
  refine ⟨au.gE,?_⟩;obtain ⟨val,w',bj,cO,aC,hle,aA⟩:=au.ok aQ aJ;rw [cO];obtain ⟨lO,hL⟩:=aA s aJ.wf;rw [ay];exact I val w' bj aC hle lO hL
 ·rw [d9 (by rw [vN aJ av];simp),ay]
  exact I undef w p FE (.refl w p) (.refl s w p) aJ.wf
 ·rw [g6 (vN aJ av)]
  refine ⟨(au s cL).1,((au s cL).2 ro B a w p aJ).mono ?_⟩;rintro e w' ⟨ak,bj,hle,aA,cg,he⟩;cases e with
  | returned val=>
   obtain ⟨x,⟨rfl,rfl⟩,aC⟩:=he;rw [ay];exact I val w' bj aC hle aA cg
  | panicked dA=>obtain ⟨v,x,-,a7,-⟩:=he;exact a7.elim
  | outgrown=>exact he
end
section
variable {J:al→Prop} {P:Program} {Γ:cy} {N:Nat} {ops:Array Oper} {Q:b6→Env→al→Prop}
def rU (listed:Array Bool) (n:Nat):Nat:=(ah0 n).countP fun i => !jF listed n i
theorem K2 {listed:Array Bool} {i:Nat} (aN:i<ops.size) (b':listed.size=ops.size) (aE:jF listed ops.size i=false) :
  rU (listed.setIfInBounds i true) ops.size+1=rU listed ops.size:=by
 unfold rU;rw [Ga aN b'];have key:∀ l:List Nat,l.Nodup→i∈l→l.countP (fun j => !ea (jF listed ops.size) i j)+1=l.countP (fun j => !jF listed ops.size j):=by
  intro l
  induction l with
  | nil=>intro _ h;cases h
  | cons x l aX=>
   intro az hm;have fZ:=as3.1 az;simp only [List.countP_cons];by_cases e:x=i
   ·subst e
    have:l.countP (fun j => !ea (jF listed ops.size) x j)=l.countP (fun j => !jF listed ops.size j):=by
     apply List.countP_congr;intro y ax;have cE:y≠x:=fun e=>fZ.1 (e ▸ ax)
     rw [jT _ cE]
    rw [this,mT,aE];simp
   ·have CZ:i∈l:=by rcases af1.1 hm with h|h;exact absurd h.symm e;exact h
    have:=aX fZ.2 CZ;rw [jT _ e];omega
 exact key _ List.nodup_range (aj8.2 aN)
theorem K3 {listed:Array Bool} (h:rU listed ops.size=0):∀ i,i<ops.size→jF listed ops.size i=true:=by
 intro i aN;unfold rU at h;rw [List.countP_eq_zero] at h;have:=h i (aj8.2 aN);simpa using this
theorem K4 {Q:gZ→Act→World→Prop} {i:Nat} {rest:List Nat} {o:Oper} (ah:ops[i]? = some o) (a:Act) (w:World) :
  iW P ops Q (i::rest) a w=(if Region.wanted o (yielded ops a.tmps)=true then gE o=true∧pJ P ((execOp a.eval o).run P w) (fun e w'=>match e with
   | .returned v=>iW P ops Q rest (a.put o.dst v) w'
   | .panicked dA=>Q (.panic dA) a w'
   | .outgrown=>False) else iW P ops Q rest (a.put o.dst undef) w):=by
 simp only [iW,ah];split
 ·exact propext ⟨fun h=>⟨h.1,h.2.mono fun e w' h=>by cases e<;>exact h⟩,fun h=>⟨h.1,h.2.mono fun e w' h=>by cases e<;>exact h⟩⟩
 ·rfl
theorem K5 (fuel t:Nat) (listed:Array Bool) :
  (Region.ready .any ops listed=[]∧Region.linearise.go .any ops (fuel+1) t listed []=[]) ∨
  ∃ i∈Region.ready .any ops listed,∃ bK,Region.linearise.go .any ops (fuel+1) t listed []=i::Region.linearise.go .any ops fuel bK (listed.setIfInBounds i true) []:=by
 simp only [Region.linearise.go]
 change (Region.ready .any ops listed=[]∧(match (Region.ready .any ops listed)[t % (Region.ready .any ops listed).length]? with
   | some i=>Region.linearise.go .any ops fuel (t / (Region.ready .any ops listed).length) (listed.setIfInBounds i true) [i]
   | none=>[].reverse)=[])∨∃ i∈Region.ready .any ops listed,∃ bK,(match (Region.ready .any ops listed)[t % (Region.ready .any ops listed).length]? with
   | some i=>Region.linearise.go .any ops fuel (t / (Region.ready .any ops listed).length) (listed.setIfInBounds i true) [i]
   | none=>[].reverse)=i::Region.linearise.go .any ops fuel bK (listed.setIfInBounds i true) []
 cases aN:(Region.ready .any ops listed)[t % (Region.ready .any ops listed).length]? with
 | none=>
  have Ti:Region.ready .any ops listed=[]:=by
   cases aC:Region.ready .any ops listed with
   | nil=>rfl
   | cons x xs=>
    rw [aC] at aN;have aw:t % (x::xs).length<(x::xs).length:=Nat.mod_lt _ ba;simp at aN;simp at aw;omega
  exact .inl ⟨Ti,rfl⟩
 | some i=>
  refine .inr ⟨i,List.mem_of_getElem? aN,t / (Region.ready .any ops listed).length,?_⟩;simp only [];rw [linearise_go_acc];rfl
theorem kW.post {B:fO} {ro:Option Nat} {D L:Nat→Bool} {V:Nat→af} {E:Nat→Env} {env:Env} {s:al} {a:Act} {w:World} {p:bU}
  (h:kW J P Γ N B ro ops D L V E env s a w p) (bM:∀ i,i<ops.size→L i=true):dx N B ro env s a w p:=
 h.st.restrict _ fun t v au=>by
  rcases h.known t v au with ⟨k,u,U,ad,aj,-⟩|eT
  ·have:=bM k (h.bound k U);rw [ad] at this;cases this
  ·exact eT
theorem bm.sound (aQ:bO P Γ) (dD:uG ops) {D:Nat→Bool} {env:Env} {s:al} (h:bm J P Γ N ops Q D env s):∀ (fuel t:Nat) (listed:Array Bool) (B:fO) (ro:Option Nat) (V:Nat→af) (E:Nat→Env) (a:Act) (w:World) (p:bU),
  listed.size=ops.size→rU listed ops.size≤fuel→kW J P Γ N B ro ops D (jF listed ops.size) V E env s a w p →
  iW P ops (kr N B ro s w p Q) (Region.linearise.go .any ops fuel t listed []) a w:=by
 have pending:∀ {J:al→Prop} {D:Nat→Bool} {env:Env} {s:al} (fuel:Nat),
   (∀ (t:Nat) (listed:Array Bool) (B:fO) (ro:Option Nat) (V:Nat→af) (E:Nat→Env) (a:Act) (w:World) (p:bU),listed.size=ops.size→rU listed ops.size≤fuel →
    kW J P Γ N B ro ops D (jF listed ops.size) V E env s a w p→iW P ops (kr N B ro s w p Q) (Region.linearise.go .any ops fuel t listed []) a w) →
   ∀ (bK:Nat) (listed:Array Bool) (B:fO) (ro:Option Nat) (V:Nat→af) (E:Nat→Env) (a:Act) (w:World) (p:bU) (i:Nat),listed.size=ops.size→rU listed ops.size≤fuel+1 →
    kW J P Γ N B ro ops D (jF listed ops.size) V E env s a w p→i∈Region.ready .any ops listed→D i=true →
    iW P ops (kr N B ro s w p Q) (i::Region.linearise.go .any ops fuel bK (listed.setIfInBounds i true) []) a w:=by
  intro J D env s fuel aX bK listed B ro V E a w p i b' rV hY aN dP;have aC:=mem_ready dD.back aN;obtain ⟨o,ah⟩:∃ o,ops[i]? = some o:=⟨_,at' aC.1⟩;obtain ⟨d,ay,nq,CX,KZ,eB⟩:=hY.wo i _ dP aC.2.1 ah;have aJ:dx N B ro (E i) s a w p:=hY.st.restrict _ fun t v au=>by
   obtain ⟨-,-,f3⟩:=eB t v au;exact f3 fun k u aA lu h6=>by
    have:=(hY.qO.ea aC).qN (mT (jF listed ops.size) i) h6;have cE:k≠i:=fun e=>by
     subst e;rw [ah] at aA;cases aA;rw [ay] at lu;cases lu;exact dD.own _ _ _ ah ay (eB _ _ au).1
    rwa [jT _ cE] at this
  rw [K4 ah];have cL:J s:=hY.inv.elim (fun q=>by have:=q i dP;rw [aC.2.1] at this;cases this) id;refine Th aQ ay aJ cL KZ (R:=fun e w'=>match e with | .panicked dA=>kr N B ro s w p Q (.panic dA) a w'|_=>False) ?_;intro val w' bj eT hle aA cg;have uH:=hY.Te dD aC dP ah ay hle aA cg eT;rw [← Ga aC.1 b'] at uH;have Tj:=K2 aC.1 b' aC.2.1;refine vO (fun _ _ _ (q:kr N B ro s w' bj Q _ _ _)=>q.after hle aA) _ _ _ (aX bK _ B ro V E _ w' bj (by simpa using b') ag uH)
 induction h with
 | @congr J D env s e he h aX=>
  intro fuel t listed B ro V E a w p b' rV hY;refine aX fuel t listed B ro V E a w p b' rV ⟨hY.sub,hY.rT,hY.qO,hY.st,fun t v au=>hY.known t v ((he t).symm.trans au),fun i o U ad aj=>?_,hY.bound,hY.inv⟩;obtain ⟨d,dT,dh,dJ,mP⟩:=hY.wo i o U ad aj;exact ⟨d,dT,dh,(he d).trans dJ,mP⟩
 | @fin J D env s dP bk=>
  intro fuel
  induction fuel with
  | zero=>
   intro t listed B ro V E a w p b' rV hY;have fJ:=K3 (ops:=ops) (listed:=listed) ag;exact .here .normal bk (hY.post fJ)
  | succ fuel aX=>
   intro t listed B ro V E a w p b' rV hY;rcases K5 (ops:=ops) fuel t listed with ⟨az,av⟩|⟨i,aN,bK,av⟩
   ·rw [av]
    exact .here .normal bk (hY.post (K1 dD.back az b'))
   ·rw [av]
    exact pending fuel aX bK listed B ro V E a w p i b' rV hY aN (dP i (mem_ready dD.back aN).1)
 | @still J D env s cL i o d v aC ah ay aT au h aX=>
  intro fuel t listed B ro V E a w p b' rV hY;exact aX fuel t listed B ro _ _ a w p b' rV (hY.ahead dD aC ah ay aT cL au)
 | @split J D env s K X wm cE av aH aA lr ab Tk Tl=>
  intro fuel
  induction fuel with
  | zero=>
   intro t listed B ro V E a w p b' rV hY;have fJ:=K3 (ops:=ops) (listed:=listed) ag;obtain ⟨j,aH,Gb⟩:=cE;have:=hY.sub j (fJ j aH);rw [Gb] at this;cases this
  | succ fuel aX=>
   intro t listed B ro V E a w p b' rV hY;rcases K5 (ops:=ops) fuel t listed with ⟨az,kX⟩|⟨i,aN,bK,kX⟩
   ·obtain ⟨j,aH,Gb⟩:=cE
    have:=hY.sub j (K1 dD.back az b' j aH);rw [Gb] at this;cases this
   ·rw [kX]
    cases dP:D i with
    | true=>exact pending fuel aX bK listed B ro V E a w p i b' rV hY aN dP
    | false=>
     have aC:=mem_ready dD.back aN;obtain ⟨o,ah⟩:∃ o,ops[i]? = some o:=⟨_,at' aC.1⟩;obtain ⟨pT,aJ⟩:=hY.ready dD aC dP ah;obtain ⟨kY,pU,nq⟩:=av i _ pT ah;have Tj:=K2 aC.1 b' aC.2.1;rw [K4 ah,g6 (vN aJ kY)];refine ⟨pU.1,(pU.2 ro B a w p aJ).mono ?_⟩;rintro e w' ⟨ak,bj,hle,lN,cg,he⟩;cases e with
     | returned val=>
      obtain ⟨x,bf,eT⟩:=he;have uH:=hY.Tf dD aC pT ah nq hle lN cg eT (aH i _ pT ah x ak bf);rw [← Ga aC.1 b'] at uH;refine vO (fun _ _ _ (q:kr N B ro ak w' bj Q _ _ _)=>q.after hle lN) _ _ _ ?_;cases ay:o.dst with
      | none=>
       rw [ay] at uH;exact Tl i _ pT ah ay x ak bf fuel bK _ B ro V E _ w' bj (by simpa using b') ag uH
      | some d=>
       rw [ay] at uH;exact Tk i _ d pT ah ay x ak bf fuel bK _ B ro V E _ w' bj (by simpa using b') ag uH
     | panicked dA=>
      obtain ⟨v,x,kT,iu,eT⟩:=he;exact ⟨.panic x,[],ak,bj,.panic v x _ kT eT,ab i _ pT ah x ak iu,hY.st.step hle lN cg,hle,lN⟩
     | outgrown=>exact he
theorem Tm (ops:Array Oper):rU (al3 ops.size false) ops.size≤ops.size:=by
 unfold rU;have:=List.countP_le_length (p:=fun i => !jF (al3 ops.size false) ops.size i) (l:=ah0 ops.size);simpa using this
theorem ae.draw (aQ:bO P Γ) (hm:P.follows .mixedOrders=true) {id:Nat} (dD:uG ops) {env:Env} {s:al} (h:bm J P Γ N ops Q (fun _=>false) env s):ae P N (.region id ops true) Q env s:=by
 intro b B a w p _ aJ;refine RP fun t=>?_
 simp only [Region.schedule,hm,Bool.true_or,ag7];have hM:dx N B b.roundOf env s a w.drew p:=aJ.step kU vQ (x8 aJ.wf);have Tn:jF (al3 ops.size false) ops.size=fun _=>false:=by
  funext i;unfold jF;by_cases aN:i<ops.size
  ·simp [aN]
  ·simp [aN]
 have hY:kW J P Γ N B b.roundOf ops (fun _=>false) (jF (al3 ops.size false) ops.size) (fun _ => .any) (fun _=>[]) env s a w.drew p:=by
  rw [Tn];exact ⟨fun i h=>h,fun i j h=>nX,fun i j h=>nX,hM.restrict [] (by simp [Env.get?]),fun t v au => .inr (hM.env t v au),fun i o h=>nX,fun i h=>nX,.inl fun i h=>nX⟩
 have:=bm.sound aQ dD h ops.size t (al3 ops.size false) B b.roundOf _ _ a w.drew p ba (Tm ops) hY;exact vO (fun _ _ _ (q:kr N B b.roundOf s w.drew p Q _ _ _)=>q.after kU vQ) _ _ _ this
end
def wq (o:Oper):List Nat:=o.after.toList.filterMap fun e=>if Region.binds .any e then some e.on else none
def qQ (l:List Nat) (i:Nat):Nat:=match nth l i with|some x=>x|none=>0
def yg (acc:List Nat):List Nat→Nat
 | []=>0
 | j::wu=>(2^j|||qQ acc j)|||yg acc wu
def wv:List Oper→List Nat→List Nat
  | [],acc=>acc
  | o::r,acc=>match yg acc (wq o) with
    | 0=>wv r (acc++[0])
    | m+1=>wv r (acc++[m+1])
def C0 (ops:Array Oper) (x y:Oper):Bool:=
 (match x.dst with|some d=>(looks ops y).contains d|none=>false)||(match y.dst with|some d=>(looks ops x).contains d|none=>false)
def rW (ops:Array Oper):Bool:=
  let ms:=wv ops.toList []
  (ah0 ops.size).all fun j=>match ops[j]? with
    | none=>false
    | some y=>(wq y).all (fun k=>aa' k j)&&(match y.dst with|some d => !(looks ops y).contains d|none=>true) &&
      (ah0 j).all fun i=>match ops[i]? with
        | none=>false
        | some x=>(match x.dst,y.dst with|some d,some c2 => !af2 d c2|_,_=>true)&&(!C0 ops x y||(qQ ms j).testBit i)
theorem C1 {ops:Array Oper} {i j:Nat} {o:Oper} (ah:ops[i]? = some o):j∈wq o↔qM ops i j:=by
 unfold wq qM;simp only [List.mem_filterMap,Array.mem_toList_iff];constructor
 ·rintro ⟨e,he,h⟩
  split at h
  ·cases h;exact ⟨o,e,ah,he,‹_›,rfl⟩
  ·cases h
 ·rintro ⟨o',e,cC,he,an,rfl⟩
  rw [ah] at cC;cases cC;exact ⟨e,he,by simp [an]⟩
theorem To {ops:Array Oper} {acc:List Nat} {k:Nat} (uI:∀ i j,(qQ acc i).testBit j=true→lq ops i j):∀ (wu:List Nat),(∀ j∈wu,qM ops k j)→∀ j,(yg acc wu).testBit j=true→lq ops k j:=by
 intro wu
 induction wu with
 | nil=>intro _ j h;simp [yg] at h
 | cons x wu aX=>
  intro ay j h;simp only [yg,al5,Bool.or_eq_true] at h;rcases h with (h|h)|h
  ·rw [aj7] at h
   have:=ai9 h;subst this;exact .dep (ay _ (i8 ..))
  ·exact .trans (ay _ (i8 ..)) (uI _ _ h)
  ·exact aX (fun y ax=>ay y (i6 _ ax)) j h
theorem K6 {ops:Array Oper}:∀ (r:List Oper) (acc:List Nat),(∀ i,r[i]? = ops[acc.length+i]?)→(∀ i j,(qQ acc i).testBit j=true→lq ops i j) →
  ∀ i j,(qQ (wv r acc) i).testBit j=true→lq ops i j:=by
 intro r
 induction r with
 | nil=>intro acc _ h;exact h
 | cons o r aX=>
  intro acc aC uI;have ah:ops[acc.length]? = some o:=by simpa using (aC 0).symm
  have hm:=To uI (k:=acc.length) (wq o) (fun j aH=>(C1 ah).1 aH);have key:∀ m,yg acc (wq o)=m→∀ i j,(qQ (wv r (acc++[m])) i).testBit j=true→lq ops i j:=by
   intro m Gc;refine aX (acc++[m]) (fun i=>?_) (fun i j h=>?_)
   ·have:=aC (i+1)
    simp only [ak0] at this;rw [this];simp [an9,aq1 1 i]
   ·unfold qQ at h
    rw [x9] at h;by_cases aN:i<acc.length
    ·rw [af' aN] at h
     exact uI i j (by unfold qQ;rw [x9];exact h)
    ·rw [af0 ag] at h
     by_cases he:i=acc.length
     ·subst he
      simp at h;rw [← Gc] at h;exact hm j h
     ·have:i-acc.length≠0:=by omega
      cases ab:i-acc.length with
      | zero=>omega
      | succ n=>rw [ab] at h;simp at h
  simp only [wv];split
  ·rename_i bu;exact key _ bu
  ·rename_i m bu;exact key _ bu
theorem Gd {ops:Array Oper} (h:rW ops=true):uG ops:=by
 unfold rW at h;simp only [ag6,aj8] at h;have jU:=K6 (ops:=ops) ops.toList [] ba (by intro i j h;simp [qQ,nth] at h);have one:∀ j y,ops[j]? = some y→(∀ k,qM ops j k→k<j)∧(∀ d,y.dst=some d→d∉looks ops y) ∧
   (∀ i x,i<j→ops[i]? = some x→(∀ d,x.dst=some d→y.dst≠some d)∧(C0 ops x y=true→lq ops j i)):=by
  intro j y ax;have aH:j<ops.size:=(t8.1 ax).1;have:=h j aH;simp only [ax,f9,ag6,aj8] at this;obtain ⟨⟨U,ad⟩,aj⟩:=this;refine ⟨fun k aA=>?_,fun d ay=>?_,fun i x aN ab=>?_⟩
  ·have:=U k ((C1 ax).2 aA)
   simpa [an4] using this
  ·rw [ay] at ad;simpa using ad
  ·have:=aj i aN
   simp only [ab,f9] at this;obtain ⟨g1,g2⟩:=this;refine ⟨fun d ay cq=>?_,fun aF=>?_⟩
   ·rw [ay,cq] at g1;simp at g1
   ·rw [aF] at g2
    exact jU j i (by simpa using g2)
 refine ⟨fun i j x y d ab ax Ah K7=>?_,fun i j x y d cE ab ax Ah aE=>?_,fun i j ay=>?_,fun i x d ab ay=>(one i x ab).2.1 d ay⟩
 ·rcases au9 i j with aw|he|nv
  ·exact absurd K7 (((one j y ax).2.2 i x aw ab).1 d Ah)
  ·exact he
  ·exact absurd Ah (((one i x ab).2.2 j y nv ax).1 d K7)
 ·rcases au9 i j with aw|he|nv
  ·exact .inr (((one j y ax).2.2 i x aw ab).2 (by simp [C0,Ah,aE]))
  ·exact absurd he cE
  ·exact .inl (((one i x ab).2.2 j y nv ax).2 (by simp [C0,Ah,aE]))
 ·obtain ⟨o,e,ah,-⟩:=id ay
  exact (one i o ah).1 j ay
def wx (Γ:cy) (N:Nat) (ops:Array Oper) (E:Env) (o:Oper):Option (Nat×af):=
  match o.dst with
  | none=>none
  | some d=>match aa' d N with
    | false=>none
    | true=>match guardOf ops E o with
      | some true=>match pL Γ o E with
        | some v=>some (d,v)
        | none=>none
      | some false=>some (d,.cu [])
      | none=>none
def Ai (Γ:cy) (N:Nat) (ops:Array Oper):List Oper→Env→List Oper×Env
  | [],env=>([],env)
  | o::l,env=>match wx Γ N ops env o with
    | some (d,v)=>Ai Γ N ops l ((d,v)::env)
    | none=>(o::l,env)
theorem C2 {J:al→Prop} {P:Program} {Γ:cy} {N:Nat} {ops:Array Oper} {E:Env} {o:Oper} {d:Nat} {v:af} (h:wx Γ N ops E o=some (d,v)):o.dst=some d∧d<N∧Still J P Γ N ops o E v:=by
 unfold wx at h;split at h
 ·cases h
 ·rename_i c2 ay
  split at h
  ·cases h
  ·rename_i aT
   split at h
   ·rename_i av
    split at h
    ·rename_i fx au;cases h;exact ⟨ay,by simpa [an4] using aT,.inl ⟨av,.a au⟩⟩
    ·cases h
   ·rename_i av;cases h;exact ⟨ay,by simpa [an4] using aT,.inr (.inl ⟨av,rfl⟩)⟩
   ·cases h
section
variable {P:Program} {Γ:cy} {N:Nat} {ops:Array Oper} {Q:b6→Env→al→Prop} {env:Env} {s:al}
theorem aa.run (aQ:bO P Γ) {l lv:List Oper} {eX:Env} (h:Ai Γ N ops l env=(lv,eX)) (aA:aa P N ops lv Q eX s):aa P N ops l Q env s:=by
 induction l generalizing env with
 | nil=>simp only [Ai,Prod.mk.injEq] at h;obtain ⟨rfl,rfl⟩:=h;exact aA
 | cons o l aX=>
  simp only [Ai] at h;split at h
  ·rename_i d v aL
   obtain ⟨ay,aT,ar⟩:=C2 (J:=nC) (P:=P) aL;have pV:aa' d N=true:=by simpa [an4] using aT
   rcases ar with ⟨av,au⟩|⟨av,rfl⟩|⟨av,au⟩
   ·exact aa.pure aQ av ay pV au (aX h)
   ·exact aa.skip av ay pV (aX h)
   ·exact aa.op av ay pV (au s trivial) (fun x ak ⟨U,ad⟩=>by subst U;subst ad;exact aX h) (fun _ _ h=>h.elim)
  ·simp only [Prod.mk.injEq] at h;obtain ⟨rfl,rfl⟩:=h;exact aA
theorem aa.C3 {l:List Oper} (t:Nat) {v fx:af} (au:env.get? t=some v) (he:v=fx) (h:aa P N ops l Q ((t,fx)::env) s):aa P N ops l Q env s:=by
 subst he;intro k aA ro B a w p aJ
 exact h k aA ro B a w p ⟨aJ.size,fun u x ab=>by
  simp only [Env.get?] at ab
  split at ab
  ·rename_i an;have:=ae0 an;subst this;cases ab;exact aJ.env _ _ au
  ·exact aJ.env u x ab,aJ.wf,aJ.defs,aJ.round,aJ.base⟩
theorem aa.dy {l:List Oper} (t:Nat) {b:Bool} (au:env.get? t=some (.bool b)) (he:b=true) (h:aa P N ops l Q ((t,.bool true)::env) s):aa P N ops l Q env s:=aa.C3 t au (ae7 af.bool he) h
theorem aa.da {l:List Oper} (t:Nat) {b:Bool} (au:env.get? t=some (.bool b)) (he:b=false) (h:aa P N ops l Q ((t,.bool false)::env) s):aa P N ops l Q env s:=aa.C3 t au (ae7 af.bool he) h
theorem aa.sub {l:List Oper} (e:Env) (ar:Env.Sub e env) (h:aa P N ops l Q e s):aa P N ops l Q env s:=
 fun k aA ro B a w p aJ=>h k aA ro B a w p (aJ.sub ar)
theorem aa.drop {l:List Oper} (ak:al) (ar:al.Sub ak s) (h:aa P N ops l Q env ak):aa P N ops l Q env s:=
 fun k aA ro B a w p aJ=>vO (fun _ _ _ (q:kr N B ro ak w p Q _ _ _)=>let ⟨x,eX,eN,bj,U,ad,aj,a',bz⟩:=q;⟨x,eX,eN,bj,U,ad,aj,a',bz.x5 ar⟩) _ _ _ (h k aA ro B a w p (aJ.FB ar))
end
def bX (m:Nat):Nat→Bool:=fun i=>m.testBit i
theorem o2 (m i:Nat):ea (bX m) i=bX (m|||2^i):=by
 funext j;unfold ea bX;rw [al5,aj7];by_cases e:j=i
 ·subst e;simp
 ·have e':¬ i=j:=fun h=>e h.symm
  simp [e,e']
def iy (ops:Array Oper) (m i:Nat):Bool:=match ops[i]? with
 | none=>false
 | some o => !(m.testBit i)&&(wq o).all fun j=>m.testBit j
theorem ti {ops:Array Oper} {m i:Nat}:iy ops m i=true↔hi ops (bX m) i:=by
 unfold iy hi bX;constructor
 ·intro h
  split at h
  ·cases h
  ·rename_i o ah
   simp only [f9,ai0,ag6] at h;exact ⟨(t8.1 ah).1,h.1,fun j aH=>h.2 j ((C1 ah).2 aH)⟩
 ·rintro ⟨U,ad,aj⟩
  have ah:ops[i]? = some ops[i]:=at' U;rw [ah];simp only [ad,Bool.not_false,f5,ag6];exact fun j aH=>aj j ((C1 ah).1 aH)
def eK (ops:Array Oper) (m:Nat):List Nat→List Nat
  | []=>[]
  | i::is=>match iy ops m i with
    | true=>i::eK ops m is
    | false=>eK ops m is
theorem Aj {ops:Array Oper} {m i:Nat} {l:List Nat} (h:hi ops (bX m) i) (aN:i∈l):i∈eK ops m l:=by
 induction l with
 | nil=>cases aN
 | cons j l aX=>
  simp only [eK];rcases af1.1 aN with rfl|aN
  ·rw [ti.2 h];exact i8 ..
  ·split
   ·exact i6 _ (aX aN)
   ·exact aX aN
def qR (Γ:cy) (N:Nat) (ops:Array Oper):List Nat→Nat→Env→Nat×Env
  | [],m,env=>(m,env)
  | i::is,m,env=>match ops[i]? with
    | none=>qR Γ N ops is m env
    | some o=>match iy ops m i with
      | false=>qR Γ N ops is m env
      | true=>match wx Γ N ops (ix env (looks ops o)) o with
        | some (d,v)=>match m|||2^i with
          | 0=>qR Γ N ops is 0 ((d,v)::env)
          | k+1=>qR Γ N ops is (k+1) ((d,v)::env)
        | none=>qR Γ N ops is m env
def idxs:Nat→List Oper→List Nat
 | _,[]=>[]
 | k,_::l=>k::idxs (k+1) l
theorem yh (k:Nat) (l:List Oper):idxs k l=ay0 k l.length:=by
 induction l generalizing k with
 | nil=>rfl
 | cons o l aX=>simp [idxs,aX,ax0]
section
variable {J:al→Prop} {P:Program} {Γ:cy} {N:Nat} {l:List Oper} {Q:b6→Env→al→Prop} {env:Env} {s:al} {m:Nat}
theorem bm.runs (cL:J s) {is:List Nat} {jq:Nat} {eX:Env} (h:qR Γ N l.toArray is m env=(jq,eX)) (aA:bm J P Γ N l.toArray Q (bX jq) eX s):bm J P Γ N l.toArray Q (bX m) env s:=by
 induction is generalizing m env with
 | nil=>simp only [qR,Prod.mk.injEq] at h;obtain ⟨rfl,rfl⟩:=h;exact aA
 | cons i is aX=>
  simp only [qR] at h;split at h
  ·exact aX h
  ·rename_i o ah
   split at h
   ·exact aX h
   ·rename_i aC
    split at h
    ·rename_i d v aL
     obtain ⟨ay,aT,ar⟩:=C2 aL;refine bm.still cL i o d v (ti.1 aC) ah ay aT ar ?_;rw [o2];split at h
     ·rename_i bu;rw [bu];exact aX h
     ·rename_i k bu;rw [bu];exact aX h
    ·exact aX h
theorem bd.runs {is:List Nat} {jq:Nat} {eX:Env} (h:qR Γ N l.toArray is m env=(jq,eX)) (aA:bd P Γ N l.toArray Q (bX jq) eX s):bd P Γ N l.toArray Q (bX m) env s:=bm.runs trivial h aA
theorem bm.run (cL:J s) {jq:Nat} {eX:Env} (h:qR Γ N l.toArray (idxs 0 l) m env=(jq,eX)) (aA:bm J P Γ N l.toArray Q (bX jq) eX s):bm J P Γ N l.toArray Q (bX m) env s:=bm.runs cL h aA
theorem bd.run {jq:Nat} {eX:Env} (h:qR Γ N l.toArray (idxs 0 l) m env=(jq,eX)) (aA:bd P Γ N l.toArray Q (bX jq) eX s):bd P Γ N l.toArray Q (bX m) env s:=bm.runs trivial h aA
theorem bd.done (dP:(idxs 0 l).all (fun i=>m.testBit i)=true) (h:Q .normal env s):bm J P Γ N l.toArray Q (bX m) env s:=by
 refine bm.fin (fun i aN=>?_) h;simp only [ag6] at dP;refine dP i ?_;rw [yh,ar1];have:i<l.length:=by simpa using aN
 omega
def kA (ops:Array Oper) (i:Nat):Bool:=(ah0 ops.size).all fun j=>af2 j i||(qQ (wv ops.toList []) i).testBit j
theorem C4 {ops:Array Oper} {i:Nat} (h:kA ops i=true):∀ j,j<ops.size→j≠i→lq ops i j:=by
 intro j aH cE;simp only [kA,ag6] at h;have:=h j (aj8.2 aH);have an:af2 j i=false:=by
  cases an:af2 j i with
  | false=>rfl
  | true=>exact absurd (ae0 an) cE
 rw [an,ah1] at this;refine K6 ops.toList [] (fun i=>by simp) (fun i j h=>?_) i j this;have:qQ [] i=0:=by cases i<;>rfl
 rw [this] at h;simp at h
theorem bm.one {i:Nat} {o:Oper} {d:Nat} {K X:af→al→Prop} (aC:eK l.toArray m (idxs 0 l)=[i]) (ah:l.toArray[i]? = some o) (ay:o.dst=some d) (aT:aa' d N=true)
  (av:c4 l env o) (h:a6 P N o (b2 l env o) s K X)
  (aH:∀ x ak,K x ak→J ak∨kA l.toArray i=true) (aA:∀ x ak,K x ak→bm J P Γ N l.toArray Q (bX (m|||2^i)) ((d,x)::env) ak) (ab:∀ x ak,X x ak→Q (.panic x) [] ak):bm J P Γ N l.toArray Q (bX m) env s:=by
 have fo:∀ j,hi l.toArray (bX m) j→j=i:=fun j aH=>by
  have:=Aj aH (l:=idxs 0 l) (by rw [yh,ar1];have:=aH.1;simp at this;omega);rw [aC] at this;simpa using this
 have iZ:hi l.toArray (bX m) i:=by
  have gm:i∈eK l.toArray m (idxs 0 l):=by rw [aC];exact i8 ..
  have:∀ is,i∈eK l.toArray m is→iy l.toArray m i=true:=by
   intro is
   induction is with
   | nil=>intro h;cases h
   | cons j is aX=>
    intro h;simp only [eK] at h;split at h
    ·rename_i an
     rcases af1.1 h with rfl|h
     ·exact an
     ·exact aX h
    ·exact aX h
  exact ti.1 (this _ gm)
 refine bm.split (fun _=>K) (fun _=>X) ⟨i,iZ.1,iZ.2.1⟩ (fun j o' aH cC=>?_) (fun j o' wy cC x ak bf=>by have:=fo j wy;subst this;exact (aH x ak bf).imp id C4) (fun j o' c2 aH cC cq x ak bf=>?_) (fun j o' aH cC cq x ak bf=>?_) (fun j o' aH cC x ak iu=>ab x ak iu)
 ·have:=fo j aH;subst this
  rw [ah] at cC;cases cC;exact ⟨av,h,fun c2 cq=>by rw [ay] at cq;cases cq;simpa [an4] using aT⟩
 ·have:=fo j aH;subst this
  rw [ah] at cC;cases cC;rw [ay] at cq;cases cq;rw [o2];exact aA x ak bf
 ·have:=fo j aH;subst this
  rw [ah] at cC;cases cC;rw [ay] at cq;cases cq
theorem bm.yi {i:Nat} {o:Oper} {K X:af→al→Prop} (aC:eK l.toArray m (idxs 0 l)=[i]) (ah:l.toArray[i]? = some o) (ay:o.dst=none)
  (av:c4 l env o) (h:a6 P N o (b2 l env o) s K X)
  (aH:∀ x ak,K x ak→J ak∨kA l.toArray i=true) (aA:∀ x ak,K x ak→bm J P Γ N l.toArray Q (bX (m|||2^i)) env ak) (ab:∀ x ak,X x ak→Q (.panic x) [] ak):bm J P Γ N l.toArray Q (bX m) env s:=by
 have fo:∀ j,hi l.toArray (bX m) j→j=i:=fun j aH=>by
  have:=Aj aH (l:=idxs 0 l) (by rw [yh,ar1];have:=aH.1;simp at this;omega);rw [aC] at this;simpa using this
 have aw:i<l.toArray.size:=(t8.1 ah).1;have o3:bX m i=false:=by
  cases an:bX m i with
  | false=>rfl
  | true=>
   have gm:i∈eK l.toArray m (idxs 0 l):=by rw [aC];exact i8 ..
   have:∀ is,i∈eK l.toArray m is→iy l.toArray m i=true:=by
    intro is
    induction is with
    | nil=>intro h;cases h
    | cons j is aX=>
     intro h;simp only [eK] at h;split at h
     ·rename_i an
      rcases af1.1 h with rfl|h
      ·exact an
      ·exact aX h
     ·exact aX h
   have:=(ti.1 (this _ gm)).2.1;rw [an] at this;cases this
 refine bm.split (fun _=>K) (fun _=>X) ⟨i,aw,o3⟩ (fun j o' aH cC=>?_) (fun j o' wy cC x ak bf=>by have:=fo j wy;subst this;exact (aH x ak bf).imp id C4) (fun j o' c2 aH cC cq x ak bf=>?_) (fun j o' aH cC cq x ak bf=>?_) (fun j o' aH cC x ak iu=>ab x ak iu)
 ·have:=fo j aH;subst this
  rw [ah] at cC;cases cC;exact ⟨av,h,fun c2 cq=>by rw [ay] at cq;cases cq⟩
 ·have:=fo j aH;subst this
  rw [ah] at cC;cases cC;rw [ay] at cq;cases cq
 ·have:=fo j aH;subst this
  rw [ah] at cC;cases cC;rw [o2];exact aA x ak bf
theorem bd.one {i:Nat} {o:Oper} {d:Nat} {K X:af→al→Prop} (aC:eK l.toArray m (idxs 0 l)=[i]) (ah:l.toArray[i]? = some o) (ay:o.dst=some d) (aT:aa' d N=true)
  (av:c4 l env o) (h:a6 P N o (b2 l env o) s K X)
  (aA:∀ x ak,K x ak→bd P Γ N l.toArray Q (bX (m|||2^i)) ((d,x)::env) ak) (ab:∀ x ak,X x ak→Q (.panic x) [] ak):bd P Γ N l.toArray Q (bX m) env s:=
 bm.one aC ah ay aT av h (fun _ _ _ => .inl trivial) aA ab
theorem bd.yi {i:Nat} {o:Oper} {K X:af→al→Prop} (aC:eK l.toArray m (idxs 0 l)=[i]) (ah:l.toArray[i]? = some o) (ay:o.dst=none)
  (av:c4 l env o) (h:a6 P N o (b2 l env o) s K X)
  (aA:∀ x ak,K x ak→bd P Γ N l.toArray Q (bX (m|||2^i)) env ak) (ab:∀ x ak,X x ak→Q (.panic x) [] ak):bd P Γ N l.toArray Q (bX m) env s:=
 bm.yi aC ah ay av h (fun _ _ _ => .inl trivial) aA ab
theorem bd.congr {ops:Array Oper} {D:Nat→Bool} (e:Env) (he:∀ t,e.get? t=env.get? t) (h:bd P Γ N ops Q D e s):bd P Γ N ops Q D env s:=bm.congr e he h
theorem ae.qS (J:al→Prop) (aQ:bO P Γ) (hm:P.follows .mixedOrders=true) {id:Nat} (dD:rW l.toArray=true) (h:bm J P Γ N l.toArray Q (bX 0) env s):ae P N (.region id l.toArray true) Q env s:=by
 refine ae.draw (J:=J) aQ hm (Gd dD) ?_;have:bX 0=fun _=>false:=by funext i;simp [bX]
 rw [this] at h;exact h
theorem ae.qT (aQ:bO P Γ) (hm:P.follows .mixedOrders=true) {id:Nat} (dD:rW l.toArray=true) (h:bd P Γ N l.toArray Q (bX 0) env s):ae P N (.region id l.toArray true) Q env s:=by
 refine ae.draw (J:=nC) aQ hm (Gd dD) ?_;have:bX 0=fun _=>false:=by funext i;simp [bX]
 rw [this] at h;exact h
end
end Go.Proofs.YtnafpeohfbglmaaGreat
