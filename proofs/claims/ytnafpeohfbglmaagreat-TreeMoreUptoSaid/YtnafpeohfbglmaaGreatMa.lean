import Derived.AtR
import Derived.Defers
import Derived.Laws.Sem
import Derived.Laws.World
import Derived.Laws.NewBlocks
import Derived.Laws.Cells
import Derived.Laws.Strings
import Derived.Laws.Tables
import Derived.Laws.Small
import Derived.LaidEql
import Derived.Laws.Append
import Derived.Laws.CopyRow
import Derived.Laws.Slices
import Derived.Laws.IdiomStrings
import Derived.Orders
set_option linter.unusedVariables false
set_option linter.unusedSimpArgs false
universe u
open Array renaming all_eq_true'→ax5,ext'→an0,foldl_toList→at',getD_eq_getD_getElem?→ad9,getElem?_append_left→aq9,getElem?_eq_getElem→ar1,getElem?_eq_some_iff→i8,getElem?_push→aw9,getElem?_setIfInBounds→ae5,length_toList→ac6,replicate→ai7,toList_extract→as9,toList_push→aq1
open Bool renaming and_eq_true→f6,false_eq_true→ad5,false_or→af1,not_eq_true'→ag5,not_true→ah7,true_and→f4
open Int renaming ofNat→aq6
open List renaming all_eq_true→ae',append_assoc→ae6,drop_nil→aq8,drop_succ_cons→al4,eq_nil_of_length_eq_zero→ag3,flatMap_cons→ah4,flatMap→aA3,foldl_cons→af0,getElem?_append_left→ad3,getElem?_append_right→ad6,getElem?_cons_succ→am9,getElem?_eq_some_iff→ac1,getElem?_map→ad7,getElem?_take→af',length_append→d9,length_cons→i7,length_drop→ag1,length_take→ac9,mapM_cons→av7,map_cons→ac0,map_nil→ae3,map_toArray→ao8,mem_append→ac7,mem_cons_of_mem→g7,mem_cons_self→i5,mem_cons→ad4,mem_filter→af4,mem_map→ad2,mem_of_mem_take→am5,mem_range'_1→ao1,mem_range→ah6,mem_singleton→t7,nil_append→d7,nodup_cons→ap3,range'_succ→au9,range'→av5,range→af7,replicate→t6,size_toArray→ak8,take_left→av6,take_nil→az5,zipIdx_cons→au6
open Nat renaming add_assoc→ak4,add_comm→ao7,add_mul→ah8,add_zero→am4,beq_refl→ar3,beq→ad0,ble→al9,blt_eq→ak9,blt→i9,eq_of_beq_eq_true→ab',le_of_ble_eq_true→al8,le_refl→i0,le_trans→al5,lt_of_lt_of_le→ai3,lt_trichotomy→ar8,mul_le_mul_right→ak2,strongRecOn→as5,testBit_or→aj7,testBit_two_pow→ai9,zero_add→ad8
open Option renaming bind_some→ah0,getD_some→ae7,isSome_none→ar2,map_eq_some_iff→av3,map_some→am3,some→am2
open Go.Result renaming andThen_ok→g6
open Go.Sem renaming runT_eq→as0,run_bind→z2,run_pure→ac4,run→au3
namespace Go.Proofs.YtnafpeohfbglmaaGreat
theorem f0 {c:Prop} {h:Decidable c} (k:¬c) {α:Sort _} {t e:α}:(if c then t else e)=e:=if_neg k
theorem f9 {c:Prop} {h:Decidable c} (k:c) {α:Sort _} {t e:α}:(if c then t else e)=t:=if_pos k
theorem i6 {p:Prop} [h:Decidable p] (k:p):decide p=true:=decide_eq_true k
theorem H1 {p:Prop} [h:Decidable p] (k:¬p):decide p=false:=decide_eq_false k
theorem ae2 {α:Sort _} {h:Decidable True} (t e:α):(if True then t else e)=t:=if_true t e
theorem af5 {α:Sort _} {h:Decidable False} (t e:α):(if False then t else e)=e:=if_false t e
theorem ac5 {α:Sort _} {β:Sort _} {a b:α} (f:α→β) (h:a=b):f a=f b:=congrArg f h
theorem aj1 {α:Type _} [BEq α] [LawfulBEq α] {a b:α}:(a==b)=true↔a=b:=beq_iff_eq
theorem ah1 {p:Prop} [h:Decidable p] (k:decide p=true):p:=of_decide_eq_true k
theorem g8 {p:Prop} [h:Decidable p]:(decide p=true)=p:=decide_eq_true_eq
theorem C {α:Sort u} {a:α}:a=a:=Eq.refl a
theorem wU {p:Prop} (h:p:=by rw [List.length_take,cu];omega):p:=h
theorem uJ {p:Prop} (h:p:=by rw [List.length_take];omega):p:=h
theorem rX {p:Prop} (h:p:=by simpa using ad):p:=h
theorem gT {p:Prop} (h:p:=by simpa using h):p:=h
theorem cO {p:Prop} (h:p:=by simp;omega):p:=h
theorem ng {p:Prop} (h:p:=by cases h):p:=h
theorem ag {p:Prop} (h:p:=by omega):p:=h
theorem bc {p:Prop} (h:p:=by simp):p:=h
inductive gM where
 | normal
 | exit (id:Nat)
 | ret
 | panic (chain:List PanicEntry)
def pH (P:Program) (m:Machine) (b:Frame) (k:List Item) (cs:List Frame):gM→Act→World→Prop
  | .normal,a,w=>Steps P m (lone (b.atR a k) cs w)
  | .exit id,a,w=>(∀ k',exitTo id k=some k'→Steps P m (lone (b.atR a k') cs w)) ∧
      (exitTo id k=none→∃ k₁,exitTo id k₁=none∧Steps P m (lone (b.atR a (.code (.exit id)::k₁)) cs w))
  | .ret,a,w=>∃ k₁,Steps P m (lone (b.atR a (.code .ret::k₁)) cs w)
  | .panic dr,a,w=>∃ k₁,Steps P m (lone { b.atR a k₁ with mode := .panicking dr } cs w)
theorem pH.of_steps {P:Program} {m m₁:Machine} {b:Frame} {k:List Item} {cs:List Frame} {e:gM} {a:Act} {w:World}
  (h:Steps P m m₁) (eT:pH P m₁ b k cs e a w):pH P m b k cs e a w:=by
 cases e with
 | normal=>exact h.trans eT
 | exit id=>exact ⟨fun k' aD=>h.trans (eT.1 k' aD),fun aD=>let ⟨k₁,U,ad⟩:=eT.2 aD;⟨k₁,U,h.trans ad⟩⟩
 | ret=>obtain ⟨k₁,ao⟩:=eT;exact ⟨k₁,h.trans ao⟩
 | panic dr=>obtain ⟨k₁,ao⟩:=eT;exact ⟨k₁,h.trans ao⟩
def jw (P:Program) (b:Frame) (c:Code) (Q:gM→Act→World→Prop) (a:Act) (w:World):Prop:=
 ∀ (k:List Item) (cs:List Frame),∃ e c3 w',Q e c3 w'∧pH P (lone (b.atR a (.code c::k)) cs w) b k cs e c3 w'
section rules
variable {P:Program} {b:Frame} {Q:gM→Act→World→Prop} {a:Act} {w:World}
theorem lG {c:Code} {n3:gM→Act→World→Prop} (h:jw P b c Q a w) (bp:∀ e a w,Q e a w→n3 e a w):jw P b c n3 a w:=
 fun k cs=>let ⟨e,c3,w',q,r⟩:=h k cs;⟨e,c3,w',bp _ _ _ q,r⟩
theorem Pw (h:Q .normal a w):jw P b .skip Q a w:=fun _ _=>⟨.normal,a,w,h,.one stepR_skip⟩
theorem Px (h:Q .ret a w):jw P b .ret Q a w:=fun k _=>⟨.ret,a,w,h,k,.refl P _⟩
theorem Py {id:Nat} (h:Q (.exit id) a w):jw P b (.exit id) Q a w:=
 fun k _=>⟨.exit id,a,w,h,fun _ aD => .one (stepR_exit aD),fun aD=>⟨k,aD,.refl P _⟩⟩
def gM.andThen (next:Act→World→Prop) (Q:gM→Act→World→Prop):gM→Act→World→Prop
 | .normal,a,w=>next a w
 | e,a,w=>Q e a w
theorem pH.IG {m:Machine} {c:Code} {k:List Item} {cs:List Frame} {e:gM} {a:Act} {w:World} (x:Item) (ab:x.plain=true)
  (he:e ≠ .normal) (h:pH P m b (x::k) cs e a w):pH P m b k cs e a w:=by
 cases e with
 | normal=>exact absurd C he
 | exit id=>exact ⟨fun k' aD=>h.1 k' (by cases x<;>simp_all [exitTo,Item.plain]),fun aD=>h.2 (by cases x<;>simp_all [exitTo,Item.plain])⟩
 | ret=>exact h
 | panic dr=>exact h
theorem Pz {x y:Code} (h:jw P b x (gM.andThen (jw P b y Q) Q) a w):jw P b (.seq x y) Q a w:=by
 intro k cs;obtain ⟨e,ix,w₁,bp,fI⟩:=h (.code y::k) cs;by_cases he:e = .normal
 ·subst he
  obtain ⟨yD,Be,hB,tf,tg⟩:=bp k cs;exact ⟨yD,Be,hB,tf,.of_steps (.head stepR_seq fI) tg⟩
 ·have uK:Q e ix w₁:=by cases e<;>first|exact absurd C he|exact bp
  exact ⟨e,ix,w₁,uK,.of_steps (.one stepR_seq) (pH.IG (c:=y) (.code y) C he fI)⟩
theorem PA {c:Operand} {x y:Code} {t:Bool} (aF:a.eval c = .bool t) (h:jw P b (if t then x else y) Q a w):jw P b (.cond c x y) Q a w:=
 fun k cs=>let ⟨e,c3,w',q,r⟩:=h k cs;⟨e,c3,w',q,.of_steps (.one (stepR_cond aF)) r⟩
def gM.inBlock (id:Nat) (Q:gM→Act→World→Prop):gM→Act→World→Prop
 | .exit ki,a,w=>if ki=id then Q .normal a w else Q (.exit ki) a w
 | e,a,w=>Q e a w
theorem PB {id:Nat} {c:Code} (h:jw P b c (gM.inBlock id Q) a w):jw P b (.block id c) Q a w:=by
 intro k cs;obtain ⟨e,ix,w₁,bp,fI⟩:=h (.inBlock id::k) cs;cases e with
 | normal=>exact ⟨.normal,ix,w₁,bp,.head stepR_block (Steps.trans fI (.one stepR_inBlock))⟩
 | exit ki=>
  by_cases rY:ki=id
  ·simp only [gM.inBlock,rY,ae2] at bp
   exact ⟨.normal,ix,w₁,bp,.head stepR_block (fI.1 k (by simp [exitTo,rY]))⟩
  ·simp only [gM.inBlock,rY,af5] at bp
   have cp:(id==ki)=false:=by simp;exact fun h=>rY h.symm
   refine ⟨.exit ki,ix,w₁,bp,fun k' aD => .head stepR_block (fI.1 k' (by simp [exitTo,cp,aD])),fun aD=>?_⟩;obtain ⟨k₁,U,ad⟩:=fI.2 (by simp [exitTo,cp,aD]);exact ⟨k₁,U,.head stepR_block ad⟩
 | ret=>obtain ⟨k₁,ao⟩:=fI;exact ⟨.ret,ix,w₁,bp,k₁,.head stepR_block ao⟩
 | panic dr=>obtain ⟨k₁,ao⟩:=fI;exact ⟨.panic dr,ix,w₁,bp,k₁,.head stepR_block ao⟩
end rules
def Round (P:Program) (l:Nat) (f:FuncId) (tmps:Array Value) (gU body:Code) (w:World) (R:Ending→World→Prop):Prop:=
 ∀ (c:Frame) (cs:List Frame),∃ e w',R e w' ∧
  match e with
  | .returned v=>Steps P (lone (Frame.round l f tmps gU body .normal) (c::cs) w) (lone (c.finish v) cs w')
  | .panicked dr=>Steps P (lone (Frame.round l f tmps gU body .normal) (c::cs) w) (lone (c.raise dr) cs w')
  | .outgrown=>False
def rZ (P:Program) (f:FuncId) (args:Array Value) (w:World) (R:Ending→World→Prop):Prop:=
 Calls P f args w fun e w'=>e ≠ .outgrown∧R e w'
theorem rZ.mono {P:Program} {f:FuncId} {args:Array Value} {w:World} {R dk:Ending→World→Prop} (h:rZ P f args w R)
  (aC:∀ e w',R e w'→dk e w'):rZ P f args w dk:=Calls.mono h fun e w' ⟨U,ad⟩=>⟨U,aC e w' ad⟩
def yE (P:Program) (gd:Next) (w:World) (R:Ending→World→Prop):Prop:=
 match gd with
 | .value v=>R (.returned v) w
 | .skip=>R (.returned undef) w
 | .enter f args=>rZ P f args w R
 | .round l f tmps gU body=>Round P l f tmps gU body w R
 | _=>False
def oQ (P:Program) (r:Result Next) (R:Ending→World→Prop):Prop:=
 match r with
 | .ok gd w'=>yE P gd w' R
 | .halt (.panic v) w'=>R (.panicked [{ v,recovered:=false }]) w'
 | _=>False
theorem Round.mono {P:Program} {l:Nat} {f:FuncId} {tmps:Array Value} {gU body:Code} {w:World} {R dk:Ending→World→Prop}
  (h:Round P l f tmps gU body w R) (aC:∀ e w',R e w'→dk e w'):Round P l f tmps gU body w dk :=
 fun c cs=>let ⟨e,w',r,s⟩:=h c cs;⟨e,w',aC _ _ r,s⟩
theorem yE.mono {P:Program} {gd:Next} {w:World} {R dk:Ending→World→Prop} (h:yE P gd w R)
  (aC:∀ e w',R e w'→dk e w'):yE P gd w dk:=by
 cases gd<;>first|exact aC _ _ h|exact rZ.mono h aC|exact Round.mono h aC|exact h.elim
theorem oQ.mono {P:Program} {r:Result Next} {R dk:Ending→World→Prop} (h:oQ P r R) (aC:∀ e w',R e w'→dk e w'):oQ P r dk:=by
 unfold oQ at h ⊢;split at h
 ·exact yE.mono h aC
 ·exact aC _ _ h
 ·exact h.elim
def gm (o:Oper):Bool:=match o.op with | .defer _=>false|_=>true
section ops
variable {P:Program} {b:Frame} {a:Act} {k:List Item} {cs:List Frame} {w:World} {ops:Array Oper}
theorem PC {i:Nat} {rest:List Nat} {o:Oper} {R:Ending→World→Prop} (ah:ops[i]? = some o) (hw:Region.wanted o (yielded ops a.tmps)=true)
  (av:gm o=true) (h:oQ P ((execOp a.eval o).run P w) R) :
  ∃ e w',R e w' ∧
   match e with
   | .returned v=>Steps P (lone (b.atR a (.inRegion ops (i::rest)::k)) cs w) (lone (b.atR (a.put o.dst v) (.inRegion ops rest::k)) cs w')
   | .panicked dr=>∃ k₁,Steps P (lone (b.atR a (.inRegion ops (i::rest)::k)) cs w) (lone { b.atR a k₁ with mode := .panicking dr } cs w')
   | .outgrown=>False:=by
 have au:=stepGR_op (P:=P) (b:=b) (k:=k) (cs:=cs) (w:=w) (rest:=rest) ah hw;have PD:o.semAt b.roundOf a.eval=execOp a.eval o:=Oper.semAt_eq _ _ _ (fun c aF=>by simp [gm,aF] at av);rw [PD] at au;have pI:∀ v,(b.atR a (.inRegion ops (i::rest)::k)).finish v=b.atR (a.put o.dst v) (.inRegion ops rest::k):=by
  intro v;rw [Frame.finish_atR,ah];rfl
 unfold oQ at h;split at h
 ·rename_i gd w' aC
  cases gd with
  | value v=>
   refine ⟨.returned v,w',h,.one (step_lone_go ?_)⟩;rw [au,← pI];simp [stepG.apply,aC]
  | skip=>
   refine ⟨.returned undef,w',h,.one (step_lone_go ?_)⟩;rw [au,← pI];simp [stepG.apply,aC]
  | enter f args=>
   obtain ⟨e,lH,gV,⟨mK,dQ⟩,r0,_,yF⟩:=h (b.atR a (.inRegion ops (i::rest)::k)::cs);have r1:step P (lone (b.atR a (.inRegion ops (i::rest)::k)) cs w) =
     .next (lone (Frame.enter P f args .normal) (b.atR a (.inRegion ops (i::rest)::k)::cs) w'):=
    step_lone_go (by rw [au];simp [stepG.apply,aC,Frame.atR])
   cases e with
   | returned v=>
    refine ⟨.returned v,lH,dQ,.head r1 (r0.trans (.one ?_))⟩;rw [← pI];exact step_leave_returned yF
   | panicked dr=>
    refine ⟨.panicked dr,lH,dQ,.inRegion ops (i::rest)::k,.head r1 (r0.trans (.one ?_))⟩;rw [← Frame.raise_atR];exact step_leave_panicked yF
   | outgrown=>exact absurd C mK
  | round l f tmps gU body=>
   obtain ⟨e,lH,dQ,r0⟩:=h (b.atR a (.inRegion ops (i::rest)::k)) cs;have r1:step P (lone (b.atR a (.inRegion ops (i::rest)::k)) cs w) =
     .next (lone (Frame.round l f tmps gU body .normal) (b.atR a (.inRegion ops (i::rest)::k)::cs) w'):=
    step_lone_go (by rw [au];simp [stepG.apply,aC,Frame.atR])
   cases e with
   | returned v=>exact ⟨.returned v,lH,dQ,.head r1 (by rw [← pI];exact r0)⟩
   | panicked dr=>exact ⟨.panicked dr,lH,dQ,.inRegion ops (i::rest)::k,.head r1 (by rw [← Frame.raise_atR];exact r0)⟩
   | outgrown=>exact r0.elim
  | _=>exact h.elim
 ·rename_i v w' aC
  refine ⟨.panicked [{ v,recovered:=false }],w',h,.inRegion ops (i::rest)::k,.one (step_lone_go ?_)⟩;rw [au,← Frame.raise_atR];simp [stepG.apply,aC]
 ·exact h.elim
end ops
def iI (P:Program) (ops:Array Oper) (Q:gM→Act→World→Prop):List Nat→Act→World→Prop
 | [],a,w=>Q .normal a w
 | i::rest,a,w=>
  match ops[i]? with
  | none=>iI P ops Q rest a w
  | some o=>
   if Region.wanted o (yielded ops a.tmps) then
    gm o=true∧oQ P ((execOp a.eval o).run P w) fun
     | .returned v,w'=>iI P ops Q rest (a.put o.dst v) w'
     | .panicked dr,w'=>Q (.panic dr) a w'
     | .outgrown,_=>False
   else iI P ops Q rest (a.put o.dst undef) w
theorem IH {P:Program} {ops:Array Oper} {Q:gM→Act→World→Prop} (b:Frame) (k:List Item) (cs:List Frame) (l:List Nat) :
  ∀ (a:Act) (w:World),iI P ops Q l a w→∃ e c3 w',Q e c3 w'∧pH P (lone (b.atR a (.inRegion ops l::k)) cs w) b k cs e c3 w':=by
 induction l with
 | nil=>exact fun a w h=>⟨.normal,a,w,h,.one stepR_region_end⟩
 | cons i rest aX=>
  intro a w h;simp only [iI] at h;cases ah:ops[i]? with
  | none=>
   simp only [ah] at h;obtain ⟨e,c3,w',bp,fI⟩:=aX a w h;have ao:=stepR_op_skip (P:=P) (b:=b) (a:=a) (k:=k) (cs:=cs) (w:=w) (ops:=ops) (i:=i) (rest:=rest) (by simp [ah]);simp only [ah,Option.bind_none,Act.put] at ao;exact ⟨e,c3,w',bp,.of_steps (.one ao) fI⟩
  | some o=>
   simp only [ah] at h;by_cases hw:Region.wanted o (yielded ops a.tmps)=true
   ·simp only [hw,ae2] at h
    obtain ⟨e,w',dQ,aI⟩:=PC (b:=b) (k:=k) (cs:=cs) (rest:=rest) ah hw h.1 h.2;cases e with
    | returned v=>
     obtain ⟨e,c3,lH,bp,fI⟩:=aX _ _ dQ;exact ⟨e,c3,lH,bp,.of_steps aI fI⟩
    | panicked dr=>exact ⟨.panic dr,a,w',dQ,aI⟩
    | outgrown=>exact aI.elim
   ·simp only [hw,af5,ad5] at h
    obtain ⟨e,c3,w',bp,fI⟩:=aX _ _ h;have ao:=stepR_op_skip (P:=P) (b:=b) (a:=a) (k:=k) (cs:=cs) (w:=w) (ops:=ops) (i:=i) (rest:=rest)
     (by simp [ah];simpa using hw)
    simp only [ah,ah0] at ao;exact ⟨e,c3,w',bp,.of_steps (.one ao) fI⟩
theorem PE {P:Program} {b:Frame} {id:Nat} {ops:Array Oper} {Q:gM→Act→World→Prop} {a:Act} {w:World}
  (h:iI P ops Q (af7 ops.size) a w):jw P b (.region id ops false) Q a w:=
 fun k cs=>let ⟨e,c3,w',q,r⟩:=IH b k cs _ a w h;⟨e,c3,w',q,.of_steps (.one stepR_region) r⟩
theorem PF {P:Program} {b:Frame} {id:Nat} {ops:Array Oper} {Q:gM→Act→World→Prop} {a:Act} {w:World}
  (h:∀ t,iI P ops Q (Region.schedule (P.follows .mixedOrders) ops t) a { w with drawn:=w.drawn+1 }):jw P b (.region id ops true) Q a w:=
 fun k cs=>let ⟨e,c3,w',q,r⟩:=IH b k cs _ a _ (h _);⟨e,c3,w',q,.of_steps (.one stepR_region_draw) r⟩
def hd (w:World):List Nat→World
 | []=>w
 | d::b4=>hd { w with heap:=w.heap.setIfInBounds d (.deferred none) } b4
def marksOf (b4:List Nat):List Deferred:=b4.map fun d=>{ target := .collected d,args := #[] }
theorem D7 {P:Program} {cs:List Frame}:∀ (b4:List Nat) (gV:Frame) (w:World),gV.mode ≠ .run→gV.defers=marksOf b4 →
  (∀ d∈b4,w.heap[d]? = some (.deferred (some [])))→b4.Nodup→Steps P (lone gV cs w) (lone { gV with defers:=[] } cs (hd w b4)):=by
 intro b4
 induction b4 with
 | nil=>
  intro gV w _ av _ _;have:({ gV with defers:=[] }:Frame)=gV:=by cases gV;simp_all [marksOf]
  rw [this];exact .refl P _
 | cons d b4 aX=>
  intro gV w hm av an aA;have mL:w.heap[d]? = some (.deferred (some [])):=an d (i5 ..);have aK:(Instr.takeDeferred d).run P w = .ok [] { w with heap:=w.heap.setIfInBounds d (.deferred none) }:=by
   unfold Instr.takeDeferred;simp only [z2,getObj,setObj,au3,mL,Result.andThen];rfl
  have U:step P (lone gV cs w) = .next (lone { gV with defers:=marksOf b4 } cs { w with heap:=w.heap.setIfInBounds d (.deferred none) }):=by
   refine step_lone_go ?_;cases uL:gV.mode with
   | run=>exact absurd uL hm
   | returning=>simp [stepG,unwind,uL,av,marksOf,as0,aK]
   | panicking chain=>simp [stepG,unwind,uL,av,marksOf,as0,aK]
  have e2:=ap3.1 aA;refine .head U (aX { gV with defers:=marksOf b4 } _ hm C ?_ e2.2);intro cX cc;have cp:d≠cX:=fun e=>e2.1 (e ▸ cc)
  simp only [ae5,cp,af5];exact an cX (g7 _ cc)
def PG (P:Program) (fn:Func) (R:Ending→World→Prop):gM→Act→World→Prop
  | .normal,a,w | .ret,a,w=>∃ b4,a.defers=marksOf b4∧b4.Nodup∧(∀ d∈b4,w.heap[d]? = some (.deferred (some []))) ∧
      ∃ v,(results fn a.tmps).run P (hd w b4) = .ok v (hd w b4)∧R (.returned v) (hd w b4)
  | .panic dr,a,w=>∃ b4,a.defers=marksOf b4∧b4.Nodup∧(∀ d∈b4,w.heap[d]? = some (.deferred (some [])))∧R (.panicked dr) (hd w b4)
  | .exit _,_,_=>False
theorem PH {P:Program} {f:FuncId} {fn:Func} {c:Code} {args:Array Value} {w:World} {R:Ending→World→Prop}
    (a1:P.funcs[f]? = some fn) (an:fn.body=some c)
    (h:∀ b:Frame,b.roundOf=none→(P.funcs[b.fn]?).isSome=true→jw P b c (PG P fn R) { tmps:=args++ai7 (fn.ntmps-args.size) undef,defers:=[] } w) :
    rZ P f args w R:=by
  intro cs
  let b:Frame:={ (default:Frame) with fn:=f,kind := .normal,roundOf:=none }
  have r1:Frame.enter P f args .normal =
      b.atR { tmps:=args++ai7 (fn.ntmps-args.size) undef,defers:=[] } [.code c]:=by
    simp [Frame.enter,Frame.atR,a1,an,b]
  obtain ⟨e,c3,w',bp,fI⟩:=h b rfl (by simp [b,a1]) [] cs;rw [← r1] at fI;cases e with
  | normal=>
    obtain ⟨b4,av,aA,kj,v,aC,dQ⟩:=bp
    exact ⟨.returned v,_,_,⟨by simp,dQ⟩,Steps.trans (Steps.trans fI (.one (stepR_end C)))
      (D7 b4 { b.atR c3 [] with mode := .returning } w' bc av kj aA),rfl,rfl,rfl,rfl,fn,a1,aC⟩
  | ret=>
    obtain ⟨b4,av,aA,kj,v,aC,dQ⟩:=bp;obtain ⟨k₁,ao⟩:=fI
    exact ⟨.returned v,_,_,⟨by simp,dQ⟩,Steps.trans (Steps.trans ao (.one (stepR_ret C)))
      (D7 b4 { b.atR c3 (.code .ret::k₁) with mode := .returning } w' bc av kj aA),rfl,rfl,rfl,rfl,fn,a1,aC⟩
  | panic dr=>
    obtain ⟨b4,av,aA,kj,dQ⟩:=bp;obtain ⟨k₁,ao⟩:=fI;exact ⟨.panicked dr,_,_,⟨by simp,dQ⟩,Steps.trans ao (D7 b4 { b.atR c3 k₁ with mode := .panicking dr } w' bc av kj aA),rfl,rfl,rfl,fn,a1⟩
  | exit id=>exact bp.elim
def PI (P:Program) (l:Nat) (R:Ending→World→Prop):gM→Act→World→Prop
 | .normal,_,w=>∃ v w',(Instr.endRound l none).run P w = .ok v w'∧R (.returned v) w'
 | .ret,_,w=>∃ v w',(Instr.endRound l (some .ret)).run P w = .ok v w'∧R (.returned v) w'
 | .exit id,_,w=>∃ v w',(Instr.endRound l (some (.exit id))).run P w = .ok v w'∧R (.returned v) w'
 | .panic dr,a,w=>a.defers=[]∧R (.panicked dr) w
theorem PJ {P:Program} {l:Nat} {f:FuncId} {fn:Func} {tmps:Array Value} {gU body:Code} {w:World} {R:Ending→World→Prop}
  (a1:P.funcs[f]? = some fn)
  (h:∀ b:Frame,b.roundOf=some l→b.fn=f→jw P b gU (gM.andThen (fun ix w₁=>∃ hB,(Instr.beginRound l).run P w₁ = .ok () hB∧jw P b body (PI P l R) ix hB) (fun _ _ _=>False))
   { tmps:=tmps,defers:=[] } w):Round P l f tmps gU body w R:=by
 intro c cs
 let b:Frame:={ (default:Frame) with fn:=f,kind := .normal,roundOf:=some l }
 have qQ:Frame.round l f tmps gU body .normal=b.atR { tmps:=tmps,defers:=[] } [.code gU,.beginRound,.code body]:=by
  simp [Frame.round,Frame.atR,b]
 obtain ⟨e,ix,w₁,bp,fI⟩:=h b rfl rfl [.beginRound,.code body] (c::cs);rw [← qQ] at fI;by_cases he:e = .normal
 ·subst he
  obtain ⟨hB,kL,r2⟩:=bp;have s1:=Steps.one (stepR_beginRound (P:=P) (b:=b) (a:=ix) (k:=[.code body]) (cs:=c::cs) C kL);obtain ⟨yD,Be,iy,tf,tg⟩:=r2 [] (c::cs);cases yD with
  | normal=>
   obtain ⟨v,k6,th,dQ⟩:=tf;exact ⟨.returned v,k6,dQ,(Steps.trans fI s1).trans (Steps.trans tg (.one (stepR_round_end C C th)))⟩
  | ret=>
   obtain ⟨v,k6,th,dQ⟩:=tf;obtain ⟨k₁,ao⟩:=tg;exact ⟨.returned v,k6,dQ,(Steps.trans fI s1).trans (Steps.trans ao (.one (stepR_round_ret C C th)))⟩
  | exit id=>
   obtain ⟨v,k6,th,dQ⟩:=tf;obtain ⟨k₁,aD,ao⟩:=tg.2 rfl;exact ⟨.returned v,k6,dQ,(Steps.trans fI s1).trans (Steps.trans ao (.one (stepR_round_exit C C aD th)))⟩
  | panic dr=>
   obtain ⟨av,dQ⟩:=tf;obtain ⟨k₁,ao⟩:=tg;refine ⟨.panicked dr,iy,dQ,(Steps.trans fI s1).trans (Steps.trans ao (.one ?_))⟩;exact step_lone_go (by simp [stepG,unwind,Frame.catches,Frame.atR,av,b,a1])
 ·cases e<;>first|exact absurd C he|exact bp.elim
inductive bN where
 | nil
 | clip
 | aZ
 | own (b:Nat)
 deriving DecidableEq
inductive af where
 | any
 | bool (b:Bool)
 | int (k:IntKind) (n:Int)
 | str (s:List UInt8)
 | pJ
 | ptr (b o:Nat)
 | bs (cells:List af) (off:Nat)
 | lI (b:Nat) (cells:List af)
 | ay (sz:Nat) (xs:List af) (own:bN)
 | Bf (b n:Nat)
 | r3
 | map (b:Nat)
 | func (f:FuncId) (first cap:List af)
 | hl (v:Value)
 | ti
 | iface (t:TypeId) (v:af)
 | nh
 | agg (cells:List af)
 | cg (vs:List af)
abbrev bO:=Nat→Nat→Prop
def flat (vs:List Value):List Value:=vs.flatMap fun v=>v.cells.toList
def uM (w:World) (p:bO) (b o:Nat) (vs:List Value):Prop:=∀ i v,vs[i]? = some v→p b (o+i)∧w.cell? ⟨b,o+i,none⟩=some v
def _root_.Go.World.kk (w:World) (r:Nat):Option (TypeId×Nat):=
 match w.heap[r]? with
 | some (.cells c elem (0,0))=>some (elem,c.size)
 | _=>none
mutual
inductive Rel (w:World) (p:bO):Value→af→Prop
 | any (v:Value):Rel w p v .any
 | bool (b:Bool):Rel w p (.bool b) (.bool b)
 | int (k:IntKind) (n:Int):Rel w p (.int k n) (.int k n)
 | str (b:ByteArray) (s:List UInt8) (h:b.data.toList=s):Rel w p (.string b) (.str s)
 | pJ:Rel w p (.pointer none) .pJ
 | ptr (b o:Nat):Rel w p (.pointer (some ⟨b,o,none⟩)) (.ptr b o)
 | bs (b base o off:Nat) (vs:List Value) (cells:List af) (ah:o=base+off) (aF:uM w p b base vs) (aC:bD w p vs cells) :
   Rel w p (.pointer (some ⟨b,o,none⟩)) (.bs cells off)
 | lI (b:Nat) (vs:List Value) (cells:List af) (aA:vs≠[]) (ao:∃ x,w.kk b=some x) (aF:uM w p b 0 vs) (aC:bD w p vs cells):Rel w p (.pointer (some ⟨b,0,none⟩)) (.lI b cells)
 | hL (sz:Nat) (own:bN) (h:∀ b,own ≠ .own b):Rel w p (.slice none 0 0) (.ay sz [] own)
 | ib (a:Addr) (sz:Nat) (own:bN) (h:own = .aZ∨own = .clip):Rel w p (.slice (some a) 0 0) (.ay sz [] own)
 | ay (g off n cap sz:Nat) (vs:List Value) (xs:List af) (own:bN) (aA:own ≠ .nil) (aB:n=xs.length) (aF:uM w p g off (flat vs)) (aC:bD w p vs xs)
   (ao:∀ v∈vs,v.cells.size=sz) (hm:n≤9223372036854775807) (aD:n≤cap) (cu:own = .clip→cap=n)
   (ah:∀ b,own = .own b→b=g∧off=0∧∃ e,w.kk g=some (e,cap*sz)):Rel w p (.slice (some ⟨g,off,none⟩) n cap) (.ay sz xs own)
 | Bf (b n cap:Nat) (hm:n≤9223372036854775807) (aD:n≤cap):Rel w p (.slice (some ⟨b,0,none⟩) n cap) (.Bf b n)
 | r3:Rel w p (.map none) .r3
 | map (b:Nat):Rel w p (.map (some b)) (.map b)
 | func (f:FuncId) (as cs:Array Value) (first cap:List af) (a8:bD w p as.toList first) (aF:bD w p cs.toList cap):Rel w p (.func (.func f) as cs) (.func f first cap)
 | hl (v:Value):Rel w p v (.hl v)
 | ti:Rel w p .nilFunc .ti
 | iface (t:TypeId) (v:Value) (x:af) (h:Rel w p v x):Rel w p (.iface t v) (.iface t x)
 | nh:Rel w p .nilIface .nh
 | agg (cs:Array Value) (xs:List af) (h:bD w p cs.toList xs):Rel w p (.agg cs) (.agg xs)
 | cg (vs:Array Value) (xs:List af) (h:bD w p vs.toList xs):Rel w p (.tuple vs) (.cg xs)
inductive bD (w:World) (p:bO):List Value→List af→Prop
 | nil:bD w p [] []
 | cons (v:Value) (x:af) (vs:List Value) (xs:List af) (h:Rel w p v x) (t:bD w p vs xs):bD w p (v::vs) (x::xs)
end
structure c8 (w:World) (p:bO) (w':World) (bg:bO):Prop where
 os:w'.os=w.os
 tape:w'.tape=w.tape
 output:w'.output=w.output
 size:w.heap.size≤w'.heap.size
 kM:∀ b o,p b o→bg b o
 same:∀ b o,p b o→w'.cell? ⟨b,o,none⟩=w.cell? ⟨b,o,none⟩
 shape:∀ b x,w.kk b=some x→w'.kk b=some x
theorem c8.refl (w:World) (p:bO):c8 w p w p:=⟨rfl,rfl,rfl,i0 _,fun _ _ h=>h,fun _ _ _=>rfl,fun _ _ h=>h⟩
theorem c8.trans {w w₁ hB:World} {p p₁ iV:bO} (h:c8 w p w₁ p₁) (k:c8 w₁ p₁ hB iV):c8 w p hB iV:=
 ⟨k.os.trans h.os,k.tape.trans h.tape,k.output.trans h.output,al5 h.size k.size,fun b o aE=>k.kM b o (h.kM b o aE),
  fun b o aE=>(k.same b o (h.kM b o aE)).trans (h.same b o aE),fun b x ab=>k.shape b x (h.shape b x ab)⟩
theorem uM.mono {w w':World} {p bg:bO} (hle:c8 w p w' bg) {b o:Nat} {vs:List Value} (h:uM w p b o vs):uM w' bg b o vs:=
 fun i v ar=>let ⟨U,ad⟩:=h i v ar;⟨hle.kM _ _ U,(hle.same _ _ U).trans ad⟩
mutual
theorem Rel.mono {w w':World} {p bg:bO} (hle:c8 w p w' bg) {v:Value} {x:af} (h:Rel w p v x):Rel w' bg v x:=by
 cases h with
 | any v=>exact .any v
 | bool b=>exact .bool b
 | int k n=>exact .int k n
 | str b s h=>exact .str b s h
 | pJ=>exact .pJ
 | ptr b o=>exact .ptr b o
 | bs b base o off vs cells ah aF aC=>exact .bs b base o off vs cells ah (aF.mono hle) (aC.mono hle)
 | lI b vs cells aA ao aF aC=>exact .lI b vs cells aA (ao.imp fun x h=>hle.shape _ _ h) (aF.mono hle) (aC.mono hle)
 | hL sz own h=>exact .hL sz own h
 | ib a sz own h=>exact .ib a sz own h
 | ay g off n cap sz vs xs own aA aB aF aC ao hm aD cu ah=>
  exact .ay g off n cap sz vs xs own aA aB (aF.mono hle) (aC.mono hle) ao hm aD cu (fun b an=>let ⟨U,ad,e,al⟩:=ah b an;⟨U,ad,e,hle.shape _ _ al⟩)
 | Bf b n cap hm aD=>exact .Bf b n cap hm aD
 | r3=>exact .r3
 | map b=>exact .map b
 | func f as cs first cap a8 aF=>exact .func f as cs first cap (a8.mono hle) (aF.mono hle)
 | hl v=>exact .hl v
 | ti=>exact .ti
 | iface t v x h=>exact .iface t v x (h.mono hle)
 | nh=>exact .nh
 | agg cs xs h=>exact .agg cs xs (h.mono hle)
 | cg vs xs h=>exact .cg vs xs (h.mono hle)
theorem bD.mono {w w':World} {p bg:bO} (hle:c8 w p w' bg) {vs:List Value} {xs:List af} (h:bD w p vs xs):bD w' bg vs xs:=by
 cases h with
 | nil=>exact .nil
 | cons v x vs xs h t=>exact .cons v x vs xs (h.mono hle) (t.mono hle)
end
section PK
variable {w:World} {p:bO}
theorem bD.length {vs:List Value} {xs:List af} (h:bD w p vs xs):vs.length=xs.length:=by
 induction vs generalizing xs with
 | nil=>cases h;rfl
 | cons v vs aX=>cases h with|cons _ x _ xs h t=>simp [aX t]
theorem bD.get {vs:List Value} {xs:List af} (h:bD w p vs xs) {i:Nat} {x:af} (ab:xs[i]? = some x):∃ v,vs[i]? = some v∧Rel w p v x:=by
 induction vs generalizing xs i with
 | nil=>cases h;simp at ab
 | cons v vs aX=>
  cases h with
  | cons _ y _ ys h t=>
   cases i with
   | zero=>simp at ab;subst ab;exact ⟨v,rfl,h⟩
   | succ i=>simp at ab;obtain ⟨u,U,ad⟩:=aX t ab;exact ⟨u,by simpa using U,ad⟩
theorem bD.append {vs us:List Value} {xs ys:List af} (h:bD w p vs xs) (k:bD w p us ys):bD w p (vs++us) (xs++ys):=by
 induction vs generalizing xs with
 | nil=>cases h;exact k
 | cons v vs aX=>cases h with|cons _ x _ xs h t=>exact .cons _ _ _ _ h (aX t)
theorem bD.take {vs:List Value} {xs:List af} (h:bD w p vs xs) (n:Nat):bD w p (vs.take n) (xs.take n):=by
  induction vs generalizing xs n with
  | nil=>cases h;simp;exact .nil
  | cons v vs aX=>
    cases h with
    | cons _ x _ xs h t=>cases n with
      | zero=>exact .nil
      | succ n=>exact .cons _ _ _ _ h (aX t n)
theorem bD.drop {vs:List Value} {xs:List af} (h:bD w p vs xs) (n:Nat):bD w p (vs.drop n) (xs.drop n):=by
  induction vs generalizing xs n with
  | nil=>cases h;simp;exact .nil
  | cons v vs aX=>
    cases h with
    | cons _ x _ xs h t=>cases n with
      | zero=>exact .cons _ _ _ _ h t
      | succ n=>exact aX t n
theorem bD.set {vs:List Value} {xs:List af} (h:bD w p vs xs) (i:Nat) {v:Value} {x:af} (ar:Rel w p v x):bD w p (vs.set i v) (xs.set i x):=by
  induction vs generalizing xs i with
  | nil=>cases h;exact .nil
  | cons u vs aX=>
    cases h with
    | cons _ y _ ys h t=>cases i with
      | zero=>exact .cons _ _ _ _ ar t
      | succ i=>exact .cons _ _ _ _ h (aX t i)
theorem bD.replicate {v:Value} {x:af} (h:Rel w p v x) (n:Nat):bD w p (t6 n v) (t6 n x):=by
 induction n with
 | zero=>exact .nil
 | succ n aX=>exact .cons _ _ _ _ h aX
end PK
abbrev Env:=List (Nat×af)
def Env.get? : Env→Nat→Option af
 | [],_=>none
 | (t,v)::e,n=>if ad0 t n then some v else Env.get? e n
inductive ds where
 | box (t:TypeId) (cells:List af)
 | row (t:TypeId) (sz n:Nat)
 | map (es:List (af×af))
 | kN (es:List (af×af)) (it:Nat) (left:List (af×af)) (cur:Option (af×af))
 | tick (m:Nat)
 | loop (r:Loop) (env:Env)
abbrev ak:=Nat→Option ds
def k7 (w:World) (p:bO) (cJ:List MapEntry) (es:List (af×af)):Prop:=
 bD w p (cJ.map (·.key)) (es.map (·.1))∧bD w p (cJ.map (·.val)) (es.map (·.2))
def pK (w:World) (p:bO) (b:Nat):ds→Prop
  | .box t cs=>∃ vs:Array Value,w.heap[b]? = some (.cells vs t (0,0))∧bD w p vs.toList cs∧∀ o,¬ p b o
  | .row t sz n=>∃ cur:Array Value,w.heap[b]? = some (.cells cur t (0,0))∧n*sz≤cur.size∧(∃ cap,cur.size=cap*sz)∧∀ o,p b o↔o<n*sz
  | .map es=>∃ cJ clock,w.heap[b]? = some (.map cJ clock)∧k7 w p cJ.toList es∧(∀ e∈cJ.toList,e.born<clock)∧(cJ.toList.map (·.born)).Nodup
  | .kN es it left cur=>∃ (cJ:Array MapEntry) (clock:Nat) (seen:Array Nat),w.heap[b]? = some (.map cJ clock)∧w.heap[it]? = some (.mapIter (some b) clock seen clock)∧k7 w p cJ.toList es ∧
      (∀ e∈cJ.toList,e.born<clock)∧(cJ.toList.map (·.born)).Nodup∧k7 w p (cJ.toList.filter fun e => !seen.contains e.born) left ∧
      ∀ k v,cur=some (k,v)→∃ II e,seen.back? = some II∧cJ.find? (·.born==II)=some e∧Rel w p e.key k∧Rel w p e.val v
  | .tick m=>∃ since seen last,w.heap[b]? = some (.mapIter (some m) since seen last)
  | .loop r env=>w.heap[b]? = some (.loop r)∧∀ t v,env.get? t=some v→Rel w p (r.tmps.getD t undef) v
structure df (w:World) (p:bO) (s:ak):Prop where
 obj:∀ b o,s b=some o→pK w p b o
 lt:∀ b o,p b o→b<w.heap.size
theorem pK.pL {w w':World} {p bg:bO} {b it:Nat} {es left:List (af×af)} {cur:Option (af×af)} (h:pK w p b (.kN es it left cur)) (hle:c8 w p w' bg) (an:w'.heap[b]? = w.heap[b]?) (aS:w'.heap[it]? = w.heap[it]?) :
  pK w' bg b (.kN es it left cur):=by
 obtain ⟨cJ,clock,seen,U,ad,al,bd,bB,gN,hn⟩:=h;exact ⟨cJ,clock,seen,an.trans U,aS.trans ad,⟨al.1.mono hle,al.2.mono hle⟩,bd,bB,⟨gN.1.mono hle,gN.2.mono hle⟩,fun k v aF=>let ⟨st,e,dm,a2,a3,a4⟩:=hn k v aF;⟨st,e,dm,a2,a3.mono hle,a4.mono hle⟩⟩
theorem pK.yG {w:World} {p:bO} {b it d:Nat} {es left:List (af×af)} {cur:Option (af×af)} (h:pK w p b (.kN es it left cur)) {o:Obj} (av:w.heap[d]? = some o) (ah:∀ m a s l,o ≠ .mapIter m a s l):it≠d:=by
 obtain ⟨cJ,clock,seen,U,ad,al⟩:=h;intro e;subst e;rw [av] at ad;cases ad;exact ah _ _ _ _ C
structure Kept (s ai:ak) (w:World) (p:bO) (w':World) (bg:bO):Prop where
 heap:∀ b,b<w.heap.size→s b=none→w'.heap[b]? = w.heap[b]?
 kl:∀ b,b<w.heap.size→s b=none→ai b=none
 kM:∀ b o,b<w.heap.size→s b=none→bg b o→p b o
theorem Kept.refl (s:ak) (w:World) (p:bO):Kept s s w p w p:=⟨fun _ _ _=>rfl,fun _ _ h=>h,fun _ _ _ _ h=>h⟩
theorem Kept.trans {s s₁ dw:ak} {w w₁ hB:World} {p p₁ iV:bO} (ao:w.heap.size≤w₁.heap.size) (h:Kept s s₁ w p w₁ p₁) (k:Kept s₁ dw w₁ p₁ hB iV):Kept s dw w p hB iV:=
  ⟨fun b an aA=>(k.heap b (ai3 an ao) (h.kl b an aA)).trans (h.heap b an aA),
   fun b an aA=>k.kl b (ai3 an ao) (h.kl b an aA),
   fun b o an aA aE=>h.kM b o an aA (k.kM b o (ai3 an ao) (h.kl b an aA) aE)⟩
def wV:Value→Option af
 | .bool b=>some (.bool b)
 | .int k n=>some (.int k n)
 | .string s=>some (.str s.data.toList)
 | .pointer none=>some .pJ
 | .slice none 0 0=>some (.ay 0 [] .nil)
 | .map none=>some .r3
 | .nilFunc=>some .ti
 | .nilIface=>some .nh
 | .tuple vs=>if vs.isEmpty then some (.cg []) else none
 | _=>none
def aJ (env:Env):Operand→Option af
 | .tmp t=>env.get? t
 | .const v=>wV v
 | .func f=>some (.func f [] [])
 | .global _=>none
theorem D8 {w:World} {p:bO} {v:Value} {x:af} (h:wV v=some x):Rel w p v x:=by
 unfold wV at h;split at h<;>first|(cases h;done)|(cases h;first|exact .bool _|exact .int _ _|exact .str _ _ C|exact .pJ|exact .hL _ _ (fun _=>by simp)|exact .r3|exact .ti|exact .nh)|skip
 rename_i vs;split at h
 ·rename_i he
  cases h;have:vs = #[]:=by simpa using he
  subst this;exact .cg _ _ .nil
 ·cases h
abbrev fx:=Nat×List Deferred
structure dq (N:Nat) (B:fx) (ro:Option Nat) (env:Env) (s:ak) (a:Act) (w:World) (p:bO):Prop where
 size:a.tmps.size=N
 env:∀ t v,env.get? t=some v→Rel w p (a.tmps.getD t undef) v
 wf:df w p s
 defs:∃ b4,a.defers=marksOf b4++B.2∧b4.Nodup∧∀ d∈b4,B.1≤d∧w.heap[d]? = some (.deferred (some []))∧s d=none
 round:∀ l,ro=some l→a.defers=[]∧(∃ r,w.heap[l]? = some (.loop r))∧s l=none
 base:B.1≤w.heap.size
theorem dq.aJ {N:Nat} {B:fx} {ro:Option Nat} {env:Env} {s:ak} {a:Act} {w:World} {p:bO} (h:dq N B ro env s a w p) {o:Operand} {x:af} (ab:aJ env o=some x) :
  Rel w p (a.eval o) x:=by
 cases o with
 | tmp t=>exact h.env t x ab
 | const v=>exact D8 ab
 | func f=>simp [Go.Proofs.YtnafpeohfbglmaaGreat.aJ] at ab;subst ab;exact .func f #[] #[] [] [] .nil .nil
 | global g=>simp [Go.Proofs.YtnafpeohfbglmaaGreat.aJ] at ab
theorem dq.step {N:Nat} {B:fx} {ro:Option Nat} {env:Env} {s ai:ak} {a:Act} {w w':World} {p bg:bO} (h:dq N B ro env s a w p)
  (hle:c8 w p w' bg) (aD:Kept s ai w p w' bg) (b5:df w' bg ai):dq N B ro env ai a w' bg:=by
 obtain ⟨b4,U,ad,al⟩:=h.defs;refine ⟨h.size,fun t v ar=>(h.env t v ar).mono hle,b5,⟨b4,U,ad,fun d av=>?_⟩,fun l aB=>?_,al5 h.base hle.size⟩
 ·obtain ⟨cB,mL,ao⟩:=al d av
  have az:d<w.heap.size:=(i8.1 mL).1;exact ⟨cB,(aD.heap d az ao).trans mL,aD.kl d az ao⟩
 ·obtain ⟨av,⟨r,aC⟩,ao⟩:=h.round l aB
  have az:l<w.heap.size:=(i8.1 aC).1;exact ⟨av,⟨r,(aD.heap l az ao).trans aC⟩,aD.kl l az ao⟩
theorem dq.put {N:Nat} {B:fx} {ro:Option Nat} {env:Env} {s:ak} {a:Act} {w:World} {p:bO} (h:dq N B ro env s a w p) {d:Nat} (av:d<N) {v:Value} {x:af}
  (ar:Rel w p v x):dq N B ro ((d,x)::env) s (a.put (some d) v) w p:=by
 refine ⟨by simp [Act.put,h.size],fun t y ax=>?_,h.wf,h.defs,h.round,h.base⟩;simp only [Env.get?] at ax;split at ax
 ·rename_i he
  have uN:d=t:=ab' he;cases ax;subst uN;have cc:d<a.tmps.size:=h.size.symm ▸ av;simpa [Act.put,ad9,ae5,cc] using ar
 ·rename_i he
  have uN:d≠t:=fun e=>he (by subst e;simp)
  have:=h.env t y ax;simpa [Act.put,ad9,ae5,uN] using this
inductive bX where
 | normal
 | exit (id:Nat)
 | ret
 | panic (v:af)
def wW (v:Value) (dr:List PanicEntry):Prop:=∃ rest,dr={ v,recovered:=false }::rest∧∀ e∈rest,e.goexit=false
theorem wW.one (v:Value):wW v [{ v,recovered:=false }]:=⟨[],rfl,fun _ h=>by cases h⟩
inductive wX (w:World) (p:bO):gM→bX→Prop
 | normal:wX w p .normal .normal
 | exit (id:Nat):wX w p (.exit id) (.exit id)
 | ret:wX w p .ret .ret
 | panic (v:Value) (x:af) (dr:List PanicEntry) (aF:wW v dr) (h:Rel w p v x):wX w p (.panic dr) (.panic x)
def jW (N:Nat) (B:fx) (ro:Option Nat) (s:ak) (w:World) (p:bO) (Q:bX→Env→ak→Prop) (e:gM) (c3:Act) (w':World):Prop:=
 ∃ x eN ai bg,wX w' bg e x∧Q x eN ai∧dq N B ro eN ai c3 w' bg∧c8 w p w' bg∧Kept s ai w p w' bg
theorem jW.after {N:Nat} {B:fx} {ro:Option Nat} {s s₁:ak} {w w₁ w':World} {p p₁:bO} {Q:bX→Env→ak→Prop} {e:gM} {c3:Act}
  (hle:c8 w p w₁ p₁) (aD:Kept s s₁ w p w₁ p₁) (h:jW N B ro s₁ w₁ p₁ Q e c3 w'):jW N B ro s w p Q e c3 w' :=
 let ⟨x,eN,ai,bg,U,ad,al,bd,bB⟩:=h
 ⟨x,eN,ai,bg,U,ad,al,hle.trans bd,aD.trans hle.size bB⟩
def ae (P:Program) (N:Nat) (c:Code) (Q:bX→Env→ak→Prop) (env:Env) (s:ak):Prop:=
 ∀ (b:Frame) (B:fx) (a:Act) (w:World) (p:bO),(P.funcs[b.fn]?).isSome=true→dq N B b.roundOf env s a w p→jw P b c (jW N B b.roundOf s w p Q) a w
section PL
variable {P:Program} {N:Nat} {Q:bX→Env→ak→Prop} {env:Env} {s:ak}
theorem ae.mono {c:Code} {n3:bX→Env→ak→Prop} (h:ae P N c Q env s) (bp:∀ e env s,Q e env s→n3 e env s):ae P N c n3 env s:=
 fun b B a w p eU aI=>lG (h b B a w p eU aI) fun _ _ _ ⟨x,eN,ai,bg,U,ad,al⟩=>⟨x,eN,ai,bg,U,bp _ _ _ ad,al⟩
theorem jW.here {B:fx} {ro:Option Nat} {a:Act} {w:World} {p:bO} {e:gM} {x:bX} (ab:wX w p e x) (bp:Q x env s) (h:dq N B ro env s a w p) :
  jW N B ro s w p Q e a w:=⟨x,env,s,p,ab,bp,h,.refl w p,.refl s w p⟩
theorem ae.skip (h:Q .normal env s):ae P N .skip Q env s:=fun _ _ _ _ _ _ aI=>Pw (.here .normal h aI)
theorem ae.ret (h:Q .ret env s):ae P N .ret Q env s:=fun _ _ _ _ _ _ aI=>Px (.here .ret h aI)
theorem ae.exit {id:Nat} (h:Q (.exit id) env s):ae P N (.exit id) Q env s:=fun _ _ _ _ _ _ aI=>Py (.here (.exit id) h aI)
def bX.andThen (next:Env→ak→Prop) (Q:bX→Env→ak→Prop):bX→Env→ak→Prop
 | .normal,e,s=>next e s
 | x,e,s=>Q x e s
theorem ae.seq {x y:Code} (h:ae P N x (bX.andThen (ae P N y Q) Q) env s):ae P N (.seq x y) Q env s:=by
 intro b B a w p eU aI;refine Pz (lG (h b B a w p eU aI) ?_);rintro e ix w₁ ⟨Bg,n4,s₁,p₁,ab,bp,kO,hle,aD⟩;cases ab with
 | normal=>exact lG (bp b B ix w₁ p₁ eU kO) fun _ _ _ h=>h.after hle aD
 | exit id=>exact ⟨_,n4,s₁,p₁,.exit id,bp,kO,hle,aD⟩
 | ret=>exact ⟨_,n4,s₁,p₁,.ret,bp,kO,hle,aD⟩
 | panic v x dr aF ar=>exact ⟨_,n4,s₁,p₁,.panic v x dr aF ar,bp,kO,hle,aD⟩
theorem Bh {w:World} {p:bO} {v:Value} {t:Bool} (h:Rel w p v (.bool t)):v = .bool t:=by cases h;rfl
theorem ae.cond {c:Operand} {x y:Code} {t:Bool} (aF:aJ env c=some (.bool t)) (aK:t=true→ae P N x Q env s) (a1:t=false→ae P N y Q env s) :
  ae P N (.cond c x y) Q env s:=by
 intro b B a w p eU aI;refine PA (Bh (aI.aJ aF)) ?_;cases t
 ·exact a1 C b B a w p eU aI
 ·exact aK C b B a w p eU aI
theorem ae.fL {c:Operand} {x y:Code} (aF:aJ env c=some (.bool true)) (h:ae P N x Q env s):ae P N (.cond c x y) Q env s:=ae.cond aF (fun _=>h) bc
theorem ae.gA {c:Operand} {x y:Code} (aF:aJ env c=some (.bool false)) (h:ae P N y Q env s):ae P N (.cond c x y) Q env s:=ae.cond aF bc (fun _=>h)
def bX.inBlock (id:Nat) (Q:bX→Env→ak→Prop):bX→Env→ak→Prop
 | .exit ki,a,w=>if ad0 ki id then Q .normal a w else Q (.exit ki) a w
 | e,a,w=>Q e a w
theorem ae.block {id:Nat} {c:Code} (h:ae P N c (bX.inBlock id Q) env s):ae P N (.block id c) Q env s:=by
 intro b B a w p eU aI;refine PB (lG (h b B a w p eU aI) ?_);rintro e ix w₁ ⟨Bg,n4,s₁,p₁,ab,bp,kO,hle,aD⟩;cases ab with
 | normal=>exact ⟨_,n4,s₁,p₁,.normal,bp,kO,hle,aD⟩
 | exit ki=>
  by_cases rY:ki=id
  ·simp only [bX.inBlock,rY,ar3,ae2] at bp
   simp only [gM.inBlock,rY,ae2];exact ⟨_,n4,s₁,p₁,.normal,bp,kO,hle,aD⟩
  ·have an:ad0 ki id=false:=by
    cases PM:ad0 ki id with
    | false=>rfl
    | true=>exact absurd (ab' PM) rY
   simp only [bX.inBlock,an,af5,ad5] at bp;simp only [gM.inBlock,rY,af5];exact ⟨_,n4,s₁,p₁,.exit ki,bp,kO,hle,aD⟩
 | ret=>exact ⟨_,n4,s₁,p₁,.ret,bp,kO,hle,aD⟩
 | panic v x dr aF ar=>exact ⟨_,n4,s₁,p₁,.panic v x dr aF ar,bp,kO,hle,aD⟩
def aR (x y:af):Prop:=∀ w p v,Rel w p v x→Rel w p v y
theorem aR.refl (x:af):aR x x:=fun _ _ _ h=>h
def Env.Sub:Env→Env→Prop
 | [],_=>True
 | (t,v)::e,env=>(∃ fj,env.get? t=some fj∧aR fj v)∧Env.Sub e env
theorem Env.Sub.get {e env:Env} (h:Env.Sub e env) {t:Nat} {v:af} (ar:e.get? t=some v):∃ fj,env.get? t=some fj∧aR fj v:=by
 induction e with
 | nil=>simp [Env.get?] at ar
 | cons x e aX=>
  obtain ⟨bI,fj⟩:=x;simp only [Env.get?] at ar;split at ar
  ·rename_i he
   have uN:bI=t:=ab' he;cases ar;subst uN;exact h.1
  ·exact aX h.2 ar
theorem dq.sub {B:fx} {ro:Option Nat} {e:Env} {a:Act} {w:World} {p:bO} (ao:Env.Sub e env) (h:dq N B ro env s a w p):dq N B ro e s a w p:=
 ⟨h.size,fun t v ar=>let ⟨fj,U,ad⟩:=ao.get ar;ad _ _ _ (h.env t fj U),h.wf,h.defs,h.round,h.base⟩
theorem ae.sub {c:Code} (e:Env) (ao:Env.Sub e env) (h:ae P N c Q e s):ae P N c Q env s:=
 fun b B a w p eU aI=>h b B a w p eU (aI.sub ao)
def ak.Sub (ai s:ak):Prop:=∀ b,ai b=s b∨ai b=none
theorem df.sub {ai:ak} {w:World} {p:bO} (ao:ak.Sub ai s) (h:df w p s):df w p ai :=
 ⟨fun b o an=>h.obj b o (by rcases ao b with e|e<;>simp_all),h.lt⟩
theorem ak.Sub.none {ai:ak} (ao:ak.Sub ai s) {b:Nat} (h:s b=none):ai b=none:=by rcases ao b with e|e<;>simp_all
theorem Kept.wY {ai eA:ak} (ao:ak.Sub ai s) {w w':World} {p bg:bO} (h:Kept ai eA w p w' bg):Kept s eA w p w' bg :=
 ⟨fun b an aA=>h.heap b an (ao.none aA),fun b an aA=>h.kl b an (ao.none aA),fun b o an aA=>h.kM b o an (ao.none aA)⟩
theorem dq.D9 {B:fx} {ro:Option Nat} {ai:ak} {a:Act} {w:World} {p:bO} (ao:ak.Sub ai s) (h:dq N B ro env s a w p):dq N B ro env ai a w p:=by
 obtain ⟨b4,U,ad,al⟩:=h.defs;exact ⟨h.size,h.env,h.wf.sub ao,⟨b4,U,ad,fun d av=>let ⟨a,b,c⟩:=al d av;⟨a,b,ao.none c⟩⟩,fun l aB=>let ⟨a,b,c⟩:=h.round l aB;⟨a,b,ao.none c⟩,h.base⟩
theorem ae.drop {c:Code} (ai:ak) (ao:ak.Sub ai s) (h:ae P N c Q env ai):ae P N c Q env s:=
 fun b B a w p eU aI=>lG (h b B a w p eU (aI.D9 ao)) fun _ _ _ ⟨x,eN,eA,bg,U,ad,al,bd,bB⟩=>⟨x,eN,eA,bg,U,ad,al,bd,bB.wY ao⟩
theorem ae.loop {σ:Type} {c:Code} (E:σ→Env) (S:σ→ak) (acv:σ→Prop) (μ:σ→Nat) (ni:σ) (aw:acv ni) (eV:Env.Sub (E ni) env) (b6:ak.Sub (S ni) s)
  (round:∀ x,acv x→ae P N c (bX.andThen (fun eN ai=>∃ y,acv y∧Env.Sub (E y) eN∧ak.Sub (S y) ai∧μ y<μ x) Q) (E x) (S x)):ae P N (.loop c) Q env s:=by
 refine ae.sub _ eV (ae.drop _ b6 ?_);intro b B a w p eU aI;have key:∀ n x a w p,μ x=n→acv x→dq N B b.roundOf (E x) (S x) a w p→∀ k cs,∃ e c3 w',jW N B b.roundOf (S x) w p Q e c3 w' ∧
   pH P (lone (b.atR a (.code c :: .inLoop c::k)) cs w) b k cs e c3 w':=by
  intro n
  induction n using as5 with
  | _ n aX=>
   intro x a w p aA ab aI k cs;obtain ⟨e,ix,w₁,⟨Bg,n4,s₁,p₁,D',bp,kO,hle,aD⟩,fI⟩:=round x ab b B a w p eU aI (.inLoop c::k) cs;by_cases he:e = .normal
   ·subst he
    cases D';obtain ⟨y,ax,hC,IJ,az⟩:=bp;obtain ⟨yD,Be,hB,tf,tg⟩:=aX (μ y) (aA ▸ az) y ix w₁ p₁ rfl ax ((kO.sub hC).D9 IJ) k cs;refine ⟨yD,Be,hB,jW.after hle aD ?_,.of_steps (Steps.trans fI (.one stepR_inLoop)) tg⟩;obtain ⟨n5,eN,eA,bg,U,ad,al,bd,bB⟩:=tf;exact ⟨n5,eN,eA,bg,U,ad,al,bd,bB.wY IJ⟩
   ·have uK:jW N B b.roundOf (S x) w p Q e ix w₁:=by
     refine ⟨Bg,n4,s₁,p₁,D',?_,kO,hle,aD⟩;cases D'<;>first|exact absurd C he|exact bp
    exact ⟨e,ix,w₁,uK,pH.IG (c:=c) (.inLoop c) C he fI⟩
 intro k cs;obtain ⟨e,c3,w',bp,fI⟩:=key _ ni a w p rfl aw aI k cs;exact ⟨e,c3,w',bp,.of_steps (.one stepR_loop) fI⟩
end PL
def aW (P:Program) (N:Nat) (o:Oper) (env:Env) (s:ak) (K X:af→ak→Prop):Prop:=
 gm o=true∧∀ ro B a w p,dq N B ro env s a w p→oQ P ((execOp a.eval o).run P w) fun e w'=>∃ ai bg,c8 w p w' bg∧Kept s ai w p w' bg∧df w' bg ai ∧
  match e with
  | .returned v=>∃ x,K x ai∧Rel w' bg v x
  | .panicked dr=>∃ v x,wW v dr∧X x ai∧Rel w' bg v x
  | .outgrown=>False
theorem aW.mono {P:Program} {N:Nat} {o:Oper} {env:Env} {s:ak} {K X aN mM:af→ak→Prop} (h:aW P N o env s K X)
  (aD:∀ x s,K x s→aN x s) (ab:∀ x s,X x s→mM x s):aW P N o env s aN mM :=
 ⟨h.1,fun ro B a w p aI=>(h.2 ro B a w p aI).mono fun e w' ⟨ai,bg,U,ad,al,bd⟩=>⟨ai,bg,U,ad,al,by
  cases e with
  | returned v=>obtain ⟨x,ab,aC⟩:=bd;exact ⟨x,aD _ _ ab,aC⟩
  | panicked dr=>obtain ⟨v,x,aF,ic,aC⟩:=bd;exact ⟨v,x,aF,ab _ _ ic,aC⟩
  | outgrown=>exact bd⟩⟩
def guardOf (ops:Array Oper) (env:Env) (o:Oper):Option Bool:=
  match o.guard with
  | none=>some true
  | some (j,want)=>
    match (ops[j]?).bind (·.dst) with
    | none=>some false
    | some d=>match env.get? d with
      | some (.bool b)=>some (match want with|true=>b|false => !b)
      | some (.cg [])=>some false
      | _=>none
theorem PN {w:World} {p:bO} {v:Value} (h:Rel w p v (.cg [])):v = .tuple #[]:=by
 cases h with
 | cg vs _ h=>have:=h.length;simp at this;rw [this]
theorem uO {N:Nat} {B:fx} {ro:Option Nat} {env:Env} {s:ak} {a:Act} {w:World} {p:bO} (aI:dq N B ro env s a w p) {ops:Array Oper} {o:Oper} {g:Bool}
  (h:guardOf ops env o=some g):Region.wanted o (yielded ops a.tmps)=g:=by
 unfold guardOf at h;unfold Region.wanted;split at h
 ·rename_i au;simp only [au];cases h;rfl
 ·rename_i j want au
  simp only [au];split at h
  ·rename_i av
   cases h;simp [yielded,av]
  ·rename_i d av
   split at h
   ·rename_i b an
    have aC:=aI.env d _ an;have ar:=Bh aC;cases h;have ax:yielded ops a.tmps j=some b:=by
     unfold yielded;have:a.tmps[d]? = some (.bool b):=by
      rw [ad9] at ar;cases ab:a.tmps[d]? with
      | none=>rw [ab] at ar;simp [undef] at ar
      | some v=>rw [ab] at ar;simpa using ar
     simp [av,this]
    rw [ax];cases want<;>cases b<;>rfl
   ·rename_i an
    cases h;have aC:=aI.env d _ an;have ar:a.tmps.getD d undef = .tuple #[]:=by
     generalize IK:a.tmps.getD d undef=v at aC;exact PN aC
    have ax:yielded ops a.tmps j=none:=by
     unfold yielded;rw [ad9] at ar;simp only [av,ah0];cases ab:a.tmps[d]? with
     | none=>rfl
     | some v=>rw [ab] at ar;simp at ar;subst ar;rfl
    rw [ax];rfl
   ·cases h
def fp (P:Program) (N:Nat) (ops:Array Oper) (l:List Nat) (Q:bX→Env→ak→Prop) (env:Env) (s:ak):Prop:=
 ∀ ro B a w p,dq N B ro env s a w p→iI P ops (jW N B ro s w p Q) l a w
section rw
variable {P:Program} {N:Nat} {ops:Array Oper} {Q:bX→Env→ak→Prop} {env:Env} {s:ak}
theorem ae.region {id:Nat} (h:fp P N ops (af7 ops.size) Q env s):ae P N (.region id ops false) Q env s:=
 fun b B a w p _ aI=>PE (h b.roundOf B a w p aI)
theorem fp.nil (h:Q .normal env s):fp P N ops [] Q env s:=fun _ _ _ _ _ aI => .here .normal h aI
theorem uP {Q n3:gM→Act→World→Prop} (bp:∀ e a w,Q e a w→n3 e a w):∀ (l:List Nat) (a:Act) (w:World),iI P ops Q l a w→iI P ops n3 l a w:=by
 intro l
 induction l with
 | nil=>exact fun a w h=>bp _ _ _ h
 | cons i rest aX=>
  intro a w h;simp only [iI] at h ⊢;split at h
  ·rename_i ah;exact aX _ _ h
  ·rename_i o ah
   split at h
   ·rename_i hw
    rw [f9 hw];exact ⟨h.1,h.2.mono fun e w' he=>by cases e<;>first|exact aX _ _ he|exact bp _ _ _ he|exact he⟩
   ·rename_i hw
    rw [f0 hw];exact aX _ _ h
theorem fp.after {l:List Nat} {s₁:ak} {ro:Option Nat} {B:fx} {a:Act} {w w₁:World} {p p₁:bO} {Ea:Env}
  (hle:c8 w p w₁ p₁) (aD:Kept s s₁ w p w₁ p₁) (h:fp P N ops l Q Ea s₁) (aI:dq N B ro Ea s₁ a w₁ p₁):iI P ops (jW N B ro s w p Q) l a w₁:=
 uP (fun _ _ _ q=>q.after hle aD) l a w₁ (h ro B a w₁ p₁ aI)
theorem fp.op {i:Nat} {l:List Nat} {o:Oper} {d:Nat} {K X:af→ak→Prop} (ah:ops[i]? = some o) (au:guardOf ops env o=some true) (av:o.dst=some d)
  (aY:i9 d N=true) (h:aW P N o env s K X) (aD:∀ x ai,K x ai→fp P N ops l Q ((d,x)::env) ai) (ab:∀ x ai,X x ai→Q (.panic x) env ai) :
  fp P N ops (i::l) Q env s:=by
 intro ro B a w p aI;have mN:d<N:=by simpa [ak9] using aY
 simp only [iI,ah,uO aI au,ae2];refine ⟨h.1,(h.2 ro B a w p aI).mono ?_⟩;rintro e w' ⟨ai,bg,hle,k8,b5,he⟩;cases e with
 | returned v=>
  obtain ⟨x,bm,aC⟩:=he;rw [av];exact fp.after hle k8 (aD x ai bm) ((aI.step hle k8 b5).put mN aC)
 | panicked dr=>
  obtain ⟨v,x,km,ic,aC⟩:=he;exact ⟨.panic x,env,ai,bg,.panic v x dr km aC,ab x ai ic,aI.step hle k8 b5,hle,k8⟩
 | outgrown=>exact he
theorem fp.uQ {i:Nat} {l:List Nat} {o:Oper} {K X:af→ak→Prop} (ah:ops[i]? = some o) (au:guardOf ops env o=some true) (av:o.dst=none)
  (h:aW P N o env s K X) (aD:∀ x ai,K x ai→fp P N ops l Q env ai) (ab:∀ x ai,X x ai→Q (.panic x) env ai) :
  fp P N ops (i::l) Q env s:=by
 intro ro B a w p aI;simp only [iI,ah,uO aI au,ae2];refine ⟨h.1,(h.2 ro B a w p aI).mono ?_⟩;rintro e w' ⟨ai,bg,hle,k8,b5,he⟩;cases e with
 | returned v=>
  obtain ⟨x,bm,aC⟩:=he;rw [av];exact fp.after hle k8 (aD x ai bm) (aI.step hle k8 b5)
 | panicked dr=>
  obtain ⟨v,x,km,ic,aC⟩:=he;exact ⟨.panic x,env,ai,bg,.panic v x dr km aC,ab x ai ic,aI.step hle k8 b5,hle,k8⟩
 | outgrown=>exact he
theorem Eb {w:World} {p:bO}:Rel w p undef (.cg []) := .cg #[] [] .nil
theorem fp.skip {i:Nat} {l:List Nat} {o:Oper} {d:Nat} (ah:ops[i]? = some o) (au:guardOf ops env o=some false) (av:o.dst=some d) (aY:i9 d N=true)
  (h:fp P N ops l Q ((d,.cg [])::env) s):fp P N ops (i::l) Q env s:=by
 intro ro B a w p aI;have mN:d<N:=by simpa [ak9] using aY
 simp only [iI,ah,uO aI au,af5,ad5,av];exact h ro B _ w p (aI.put mN Eb)
end rw
theorem df.grow {w w':World} {p bg:bO} {s:ak} (hle:c8 w p w' bg) (c6:∀ b,b<w.heap.size→w'.heap[b]? = w.heap[b]?)
  (aE:∀ b o,b<w.heap.size→bg b o→p b o) (az:∀ b o,bg b o→b<w'.heap.size) (h:df w p s):df w' bg s:=by
 refine ⟨fun b o an=>?_,az⟩;have ah:=h.obj b o an;cases o with
 | box t cs=>
  obtain ⟨vs,U,ad,al⟩:=ah;have r4:b<w.heap.size:=(i8.1 U).1;exact ⟨vs,(c6 b r4).trans U,ad.mono hle,fun o fc=>al o (aE b o r4 fc)⟩
 | row t sz n=>
  obtain ⟨cur,U,ad,al,bd⟩:=ah;have r4:b<w.heap.size:=(i8.1 U).1;exact ⟨cur,(c6 b r4).trans U,ad,al,fun o=>⟨fun fc=>(bd o).1 (aE b o r4 fc),fun aA=>hle.kM _ _ ((bd o).2 aA)⟩⟩
 | map es=>
  obtain ⟨cJ,clock,U,ad,al,bd⟩:=ah;have r4:b<w.heap.size:=(i8.1 U).1;exact ⟨cJ,clock,(c6 b r4).trans U,⟨ad.1.mono hle,ad.2.mono hle⟩,al,bd⟩
 | kN es it left cur=>
  obtain ⟨cJ,clock,seen,U,ad,-⟩:=id ah;exact ah.pL hle (c6 b (i8.1 U).1) (c6 it (i8.1 ad).1)
 | tick m=>obtain ⟨dm,a2,a3,U⟩:=ah;exact ⟨dm,a2,a3,(c6 b (i8.1 U).1).trans U⟩
 | loop r env=>exact ⟨(c6 b (i8.1 ah.1).1).trans ah.1,fun t v h=>(ah.2 t v h).mono hle⟩
theorem lJ (w:World) (o:Obj) (b:Nat) (h:b<w.heap.size):(w.alloc o).heap[b]? = w.heap[b]?:=by
 show (w.heap.push o)[b]? = _;rw [aw9,f0 ag]
theorem tj (w:World) (o:Obj):(w.alloc o).heap[w.heap.size]? = some o:=by
 show (w.heap.push o)[w.heap.size]? = _;rw [aw9,f9 C]
theorem wZ {w w':World} {b:Nat} (h:w'.heap[b]? = w.heap[b]?):w'.kk b=w.kk b:=by simp [World.kk,h]
theorem w0 {w w':World} {b o:Nat} (h:w'.heap[b]? = w.heap[b]?):w'.cell? ⟨b,o,none⟩=w.cell? ⟨b,o,none⟩:=by simp [World.cell?,h]
theorem PO {w:World} {b:Nat} {x:TypeId×Nat} (h:w.kk b=some x):b<w.heap.size:=by
 unfold World.kk at h;split at h
 ·rename_i c6;exact (i8.1 c6).1
 ·cases h
theorem c8.of_heap {w w':World} {p bg:bO} (ah:w'.os=w.os) (aK:w'.tape=w.tape) (hu:w'.output=w.output) (ao:w.heap.size≤w'.heap.size)
  (aE:∀ b o,p b o→bg b o) (az:∀ b o,p b o→b<w.heap.size) (c6:∀ b,b<w.heap.size→w'.heap[b]? = w.heap[b]?):c8 w p w' bg :=
 ⟨ah,aK,hu,ao,aE,fun b o an=>w0 (c6 b (az b o an)),fun b x ab=>by rw [wZ (c6 b (PO ab))];exact ab⟩
def bO.dR (p:bO) (b:Nat) (c:Prop):bO:=fun aT o=>p aT o∨(aT=b∧c)
section alloc
variable {w:World} {p:bO} {s:ak}
theorem tk (az:∀ b o,p b o→b<w.heap.size) (o:Obj) (c:Prop):c8 w p (w.alloc o) (p.dR w.heap.size c):=
 c8.of_heap C C C bc (fun _ _ h => .inl h) az (fun b an=>lJ w o b an)
theorem yH (h:df w p s) (o:Obj) (c:Prop):df (w.alloc o) (p.dR w.heap.size c) s:=
  h.grow (tk h.lt o c) (fun b an=>lJ w o b an) (fun b o an aE=>by rcases aE with aE|⟨rfl,_⟩;exact aE;omega)
    (fun b o aE=>by rcases aE with aE|⟨rfl,_⟩;have:=h.lt b o aE;simp;omega;simp)
theorem Bi (o:Obj) (c:Prop):Kept s s w p (w.alloc o) (p.dR w.heap.size c):=
 ⟨fun b an _=>lJ w o b an,fun _ _ h=>h,fun b o an _ aE=>by rcases aE with aE|⟨rfl,_⟩;exact aE;omega⟩
theorem Ec (vs:List Value) (t:TypeId):uM (w.alloc (.cells vs.toArray t)) (p.dR w.heap.size True) w.heap.size 0 vs:=by
 intro i v ar;refine ⟨.inr ⟨rfl,trivial⟩,?_⟩;rw [ad8];simp only [World.cell?,tj,ar2,ad5,af5];simpa using ar
theorem kn:c8 w p w.drew p:=⟨rfl,rfl,rfl,i0 _,fun _ _ h=>h,fun _ _ _=>rfl,fun _ _ h=>h⟩
theorem w1 (h:df w p s):df w.drew p s:=h.grow kn (fun _ _=>rfl) (fun _ _ _ h=>h) h.lt
theorem uR:Kept s s w p w.drew p:=⟨fun _ _ _=>rfl,fun _ _ h=>h,fun _ _ _ _ h=>h⟩
end alloc
inductive r5 where
 | bool
 | int (k:IntKind)
 | str
 | ptr (e:TypeId)
 | ay (e:TypeId)
 | map (k e:TypeId)
 | struct (gn:List (Nat×TypeId))
 | iface (bare:Bool)
 | func
 | arr (n:Nat) (e:TypeId)
 | other
structure bL where
 bE:r5
 size:Nat
 bytes:Nat
 zero:Value
def eh:TypeDesc→r5
 | .bool => .bool
 | .int k => .int k
 | .string => .str
 | .pointer e => .ptr e
 | .slice e => .ay e
 | .map k e => .map k e
 | .struct gn => .struct (gn.toList.map fun f=>(f.offset,f.type))
 | .interface ms => .iface ms.isEmpty
 | .func .. => .func
 | .array n e => .arr n e
 | _ => .other
abbrev cj:=List (Nat×bL)
def cj.get? : cj→Nat→Option bL
 | [],_=>none
 | (t,v)::e,n=>if ad0 t n then some v else cj.get? e n
def Ed (P:Program) (t:TypeId):Option bL:=
  match P.info? t,P.underlying t with
  | some i,some d=>match i.zero with
    | some z=>some { bE:=eh d,size:=i.size,bytes:=i.bytes,zero:=z }
    | none=>none
  | _,_=>none
def bM (P:Program) (Γ:cj):Prop:=∀ t i,Γ.get? t=some i→Ed P t=some i
theorem PQ (P:Program) (Γ:cj) (h:Γ.map (fun x=>Ed P x.1)=Γ.map (fun x=>some x.2)):bM P Γ:=by
 induction Γ with
 | nil=>intro t i h;simp [cj.get?] at h
 | cons x Γ aX=>
  obtain ⟨bI,Bj⟩:=x;simp only [ac0,List.cons.injEq] at h;intro t i au;simp only [cj.get?] at au;split at au
  ·rename_i he
   have:=ab' he;subst this;cases au;exact h.1
  ·exact aX h.2 t i au
theorem bM.parts {P:Program} {Γ:cj} (h:bM P Γ) {t:TypeId} {i:bL} (aS:Γ.get? t=some i) :
  ∃ info d,P.info? t=some info∧P.underlying t=some d∧eh d=i.bE∧info.size=i.size∧info.bytes=i.bytes∧info.zero=some i.zero:=by
 have:=h t i aS;unfold Ed at this;split at this
 ·rename_i info d U ad
  split at this
  ·rename_i z bP
   cases this;exact ⟨info,d,U,ad,rfl,rfl,rfl,bP⟩
  ·cases this
 ·cases this
def cellsOf:af→Option (List af)
 | .agg cs=>some cs
 | .any=>none
 | .hl (.func f a c)=>some [.hl (.func f a c)]
 | .hl (.slice a n c)=>some [.hl (.slice a n c)]
 | .hl _=>none
 | .cg _=>none
 | v=>some [v]
theorem pM {w:World} {p:bO} {v:Value} {x:af} {cs:List af} (aC:Rel w p v x) (h:cellsOf x=some cs):bD w p v.cells.toList cs:=by
 cases aC with
 | hl v=>
  cases v<;>simp [cellsOf] at h
  all_goals
   subst h;exact .cons _ _ _ _ (.hl _) .nil
 | any=>cases h
 | cg=>cases h
 | agg cs xs eT=>cases h;exact eT
 | _=>simp only [cellsOf] at h;cases h;simp only [Value.cells];refine .cons _ _ _ _ ?_ .nil;constructor<;>assumption
def tl:Nat→List af→Option (List af)
  | 0,_=>some []
  | n+1,v::r=>match tl n r with
    | some s=>some (v::s)
    | none=>none
  | _+1,[]=>none
def pN:Nat→List af→Option (List af)
 | 0,r=>some r
 | n+1,_::r=>pN n r
 | _+1,[]=>none
def nth {α:Type}:List α→Nat→Option α
 | [],_=>none
 | x::_,0=>some x
 | _::r,n+1=>nth r n
theorem w2 {α:Type} (l:List α) (n:Nat):nth l n=l[n]?:=by
  induction l generalizing n with
  | nil=>rfl
  | cons x l aX=>cases n with
    | zero=>rfl
    | succ n=>simp only [nth,am9];exact aX n
theorem Bk {n:Nat} {l r:List af} (h:tl n l=some r):r=l.take n∧n≤l.length:=by
 induction n generalizing l r with
 | zero=>cases h;simp
 | succ n aX=>
  cases l with
  | nil=>simp [tl] at h
  | cons v l=>
   simp only [tl] at h;split at h
   ·rename_i s ao;cases h;obtain ⟨U,ad⟩:=aX ao;subst U;simp;omega
   ·cases h
theorem PR {n:Nat} {l r:List af} (h:pN n l=some r):r=l.drop n:=by
  induction n generalizing l with
  | zero=>cases h;rfl
  | succ n aX=>cases l with
    | nil=>simp [pN] at h
    | cons v l=>simpa [pN] using aX (by simpa [pN] using h)
def hD (i:bL) (cells:List af) (off:Nat):Option af:=
  match pN off cells with
  | none=>none
  | some r=>match i.bE with
    | .struct _=>match tl i.size r with
      | some cs=>some (.agg cs)
      | none=>none
    | .arr _ _=>match tl i.size r with
      | some cs=>some (.agg cs)
      | none=>none
    | .other=>none
    | _=>match r with
      | v::_=>some v
      | []=>none
def ho:Value→Option af
  | .agg cs=>match cs.toList.mapM wV with
    | some xs=>some (.agg xs)
    | none=>none
  | v=>wV v
theorem PS {w:World} {p:bO} {vs:List Value} {xs:List af} (h:vs.mapM wV=some xs):bD w p vs xs:=by
 induction vs generalizing xs with
 | nil=>simp at h;subst h;exact .nil
 | cons v vs aX=>
  simp only [av7,Option.bind_eq_bind,Option.pure_def,Option.bind_eq_some_iff,am2.injEq] at h;obtain ⟨x,ab,ys,w3,rfl⟩:=h;exact .cons _ _ _ _ (D8 ab) (aX w3)
theorem pO {w:World} {p:bO} {v:Value} {x:af} (h:ho v=some x):Rel w p v x:=by
 unfold ho at h;split at h
 ·split at h
  ·rename_i cs xs ab;cases h;exact .agg _ _ (PS ab)
  ·cases h
 ·exact D8 h
def uS (d:TypeDesc):Bool:=match d with | .struct _ | .array _ _=>true|_=>false
theorem w4 {P:Program} {t:TypeId} {d:TypeDesc} (h:P.underlying t=some d) (w:World):(isAgg t).run P w = .ok (uS d) w:=by
 unfold isAgg;rw [z2,run_underlying h,g6];cases d<;>rfl
theorem yI {d:TypeDesc} {gn:List (Nat×TypeId)} (h:eh d = .struct gn):∃ f:Array Field,d = .struct f∧gn=f.toList.map fun x=>(x.offset,x.type):=by
 cases d<;>simp [eh] at h;rename_i f;exact ⟨f,rfl,h.symm⟩
theorem yJ {d:TypeDesc} {n:Nat} {e:TypeId} (h:eh d = .arr n e):d = .array n e:=by
 cases d<;>simp [eh] at h
 rw [h.1,h.2]
theorem IL {d:TypeDesc} (U:∀ gn,eh d ≠ .struct gn) (al:∀ n e,eh d ≠ .arr n e) (ad:eh d ≠ .other):uS d=false:=by
 cases d<;>simp_all [eh,uS]
def Ee (op:BinOp) (k:IntKind) (a b:Int):Option af:=
 match op with
 | .add=>some (.int k (k.wrap (a+b)))
 | .sub=>some (.int k (k.wrap (a-b)))
 | .mul=>some (.int k (k.wrap (a*b)))
 | .eql=>some (.bool (a==b))
 | .neq=>some (.bool (a != b))
 | .lss=>some (.bool (decide (a<b)))
 | .leq=>some (.bool (decide (a≤b)))
 | .gtr=>some (.bool (decide (a>b)))
 | .geq=>some (.bool (decide (a≥b)))
 | _=>none
def Ef (op:BinOp) (a b:List UInt8):Option af:=
 match op with
 | .eql=>some (.bool (a==b))
 | .neq=>some (.bool (!(a==b)))
 | .lss=>some (.bool (Op.bytesLess a b))
 | .gtr=>some (.bool (!(Op.bytesLess a b||a==b)))
 | .leq=>some (.bool (Op.bytesLess a b||a==b))
 | .geq=>some (.bool (!(Op.bytesLess a b)))
 | _=>none
def uT:af→Option Bool
 | .pJ | .r3 | .ti | .nh=>some true
 | .ptr _ _ | .bs _ _ | .lI _ _ | .map _ | .func _ _ _ | .iface _ _=>some false
 | .ay _ _ .nil=>some true
 | .ay _ (_::_) _=>some false
 | .ay _ _ (.own _)=>some false
 | _=>none
inductive Eg where|ptr|ay|map|func|iface
def IM:Operand→Option Eg
 | .const (.pointer none)=>some .ptr
 | .const (.slice none 0 0)=>some .ay
 | .const (.map none)=>some .map
 | .const .nilFunc=>some .func
 | .const .nilIface=>some .iface
 | _=>none
def r5.Bl:r5→Eg→Bool
 | .ptr _,.ptr=>true
 | .ay _,.ay=>true
 | .map _ _,.map=>true
 | .func,.func=>true
 | .iface _,.iface=>true
 | _,_=>false
def af.Bm:af→Eg→Bool
 | .pJ,.ptr | .ptr _ _,.ptr | .bs _ _,.ptr | .lI _ _,.ptr=>true
 | .ay _ _ _,.ay=>true
 | .r3,.map | .map _,.map=>true
 | .ti,.func | .func _ _ _,.func=>true
 | .nh,.iface | .iface _ _,.iface=>true
 | _,_=>false
def Bn (Γ:cj) (op:BinOp) (t:TypeId) (y:Operand) (a b:af):Option af:=
  match IM y with
  | some k=>match Γ.get? t with
    | some i=>match i.bE.Bl k,a.Bm k,uT a,op with
      | true,true,some q,.eql=>some (.bool q)
      | true,true,some q,.neq=>some (.bool (!q))
      | _,_,_,_=>none
    | none=>none
  | none=>match a,b with
    | .int k x,.int k' z=>if k=k' then Ee op k x z else none
    | .str x,.str z=>Ef op x z
    | .bool x,.bool z=>match Γ.get? t,op with
      | some ⟨.bool,_,_,_⟩,.eql=>some (.bool (x==z))
      | some ⟨.bool,_,_,_⟩,.neq=>some (.bool (!(x==z)))
      | _,_=>none
    | .lI x _,.lI z _=>match Γ.get? t,op with
      | some ⟨.ptr e,_,_,_⟩,.eql=>match Γ.get? e with
        | some ⟨_,_+1,_,_⟩=>some (.bool (x==z))
        | _=>none
      | some ⟨.ptr e,_,_,_⟩,.neq=>match Γ.get? e with
        | some ⟨_,_+1,_,_⟩=>some (.bool (!(x==z)))
        | _=>none
      | _,_=>none
    | _,_=>none
theorem PT {P:Program} {op:BinOp} {t:TypeId} {k:IntKind} {a b:Int} {x:af} (h:Ee op k a b=some x) (w:World) (p:bO) :
  ∃ v,(binOp op t (.int k a) (.int k b)).run P w = .ok v w∧Rel w p v x:=by
 cases op<;>simp only [Ee] at h<;>cases h<;>simp only [binOp,ne_eq,not_true_eq_false,af5,Op.intArith,Op.intCmp,ac4] <;>
  first|exact ⟨_,rfl,.int _ _⟩|exact ⟨_,rfl,.bool _⟩
theorem PU {P:Program} {op:BinOp} {t:TypeId} {a b:ByteArray} {x:af} (h:Ef op a.data.toList b.data.toList=some x) (w:World) (p:bO) :
  ∃ v,(binOp op t (.string a) (.string b)).run P w = .ok v w∧Rel w p v x:=by
 cases op<;>simp only [Ef] at h<;>cases h<;>simp only [binOp,Op.stringOp,ac4,ByteArray.toList_eq]<;>exact ⟨_,rfl,.bool _⟩
theorem IN {w:World} {b:Nat} {x:TypeId×Nat} (h:w.kk b=some x):∃ c T,w.heap[b]? = some (.cells c T (0,0)):=by
 unfold World.kk at h;split at h
 ·rename_i c T c6;exact ⟨c,T,c6⟩
 ·cases h
theorem r6 {P:Program} {op:BinOp} {t:TypeId} {x y:Operand} {a b:Value} (w:World) (h:(a = .nilIface∧b = .nilIface→∃ c,y = .const c)∧(∀ c,a ≠ .agg c)) :
  (eqGuard op t x y a b).run P w = .ok () w:=by
 cases a with
 | nilIface=>
  cases b with
  | nilIface=>
   obtain ⟨c,rfl⟩:=h.1 ⟨rfl,rfl⟩;cases x<;>cases op<;>rfl
  | _=>cases op<;>rfl
 | agg c=>exact absurd C (h.2 c)
 | _=>cases op<;>rfl
theorem uU {P:Program} {t:TypeId} {x y:Value} {q:Bool} {w:World} (an:binOp .eql t x y=(do pure (.bool (← Op.equal t x y)))) (aA:binOp .neq t x y=(do pure (.bool (!(← Op.equal t x y)))))
  (h:∀ d,(Op.equalIn (d+1) t x y).run P w = .ok q w):(binOp .eql t x y).run P w = .ok (.bool q) w∧(binOp .neq t x y).run P w = .ok (.bool (!q)) w:=by
 have he:(Op.equal t x y).run P w = .ok q w:=h 9999;rw [an,aA];simp only [z2,he,g6,ac4,and_self]
theorem PV {w:World} {p:bO} {v:Value} {sz:Nat} {xs:List af} {own:bN} {q:Bool} (h:Rel w p v (.ay sz xs own)) (bp:uT (.ay sz xs own)=some q) :
  (v = .slice none 0 0∧q=true)∨(∃ a n c,v = .slice (some a) n c∧q=false):=by
 cases h with
 | hL _ _ ah=>
  cases own<;>simp [uT] at bp
  ·exact .inl ⟨rfl,by simp [bp]⟩
  ·exact absurd C (ah _)
 | ib a _ _ ah=>rcases ah with rfl|rfl<;>simp [uT] at bp
 | ay g off n cap _ vs _ _ aA aB aF aC ao hm aD cu ah=>
  refine .inr ⟨_,_,_,rfl,?_⟩;cases own<;>cases xs<;>simp [uT] at bp aA<;>simp [bp]
theorem PW {P:Program} {Γ:cj} (aP:bM P Γ) {N:Nat} {B:fx} {ro:Option Nat} {env:Env} {s:ak} {a:Act} {w:World} {p:bO} (aI:dq N B ro env s a w p)
  {op:BinOp} {t yt:TypeId} {x y:Operand} {u v r:af} (ab:aJ env x=some u) (ax:aJ env y=some v) (h:Bn Γ op t y u v=some r) :
  ∃ val,(do eqGuard op t x y (a.eval x) (a.eval y);binOp op t (a.eval x) (a.eval y):Sem Value).run P w = .ok val w∧Rel w p val r:=by
 have hu:=aI.aJ ab;have ar:=aI.aJ ax;unfold Bn at h;split at h
 ·rename_i k aD
  have PX:∃ c,y = .const c∧a.eval y=c∧((k = .ptr∧c = .pointer none)∨(k = .ay∧c = .slice none 0 0)∨(k = .map∧c = .map none)∨(k = .func∧c = .nilFunc)∨(k = .iface∧c = .nilIface)):=by
   unfold IM at aD;split at aD<;>cases aD<;>exact ⟨_,rfl,rfl,by simp⟩
  obtain ⟨c,rfl,aF,Bo⟩:=PX;rw [aF];split at h
  ·rename_i i aS
   obtain ⟨info,d,U,ad,al,-⟩:=aP.parts aS;have key:∀ q,uT u=some q→u.Bm k=true→i.bE.Bl k=true→(∀ cs,a.eval x ≠ .agg cs)∧(binOp .eql t (a.eval x) c).run P w = .ok (.bool q) w∧(binOp .neq t (a.eval x) c).run P w = .ok (.bool (!q)) w:=by
    intro q bp a1 ah;generalize a.eval x=dG at hu;rw [← al] at ah;have ao:∀ (g n cap:Nat) (o:Nat),True:=fun _ _ _ _=>trivial
    have dj:∀ e sz xs own,d = .slice e→u = .ay sz xs own→(∀ cs,dG ≠ .agg cs)∧(binOp .eql t dG (.slice none 0 0)).run P w = .ok (.bool q) w∧(binOp .neq t dG (.slice none 0 0)).run P w = .ok (.bool (!q)) w:=by
     rintro e sz xs own rfl rfl;rcases PV hu bp with ⟨rfl,rfl⟩|⟨a,n,c,rfl,rfl⟩<;>(refine ⟨by simp,uU C C (fun d=>?_)⟩<;>simp [Op.equalIn,run_underlying ad])
    rcases Bo with ⟨rfl,rfl⟩|⟨rfl,rfl⟩|⟨rfl,rfl⟩|⟨rfl,rfl⟩|⟨rfl,rfl⟩ <;>
    (try (cases d<;>simp only [eh,r5.Bl] at ah<;>(try (simp at ah;done))<;>cases u<;>simp only [af.Bm] at a1<;>(try (simp at a1;done))<;>exact dj _ _ _ _ C C)) <;>
    cases d<;>simp only [eh,r5.Bl] at ah<;>(try (simp at ah;done)) <;>
    cases hu<;>simp only [af.Bm,uT] at a1 bp<;>(try (simp at a1;done)) <;>
    (try (cases bp)) <;>
    (refine ⟨by simp,uU C C (fun d=>?_)⟩<;>simp [Op.equalIn,run_underlying ad]<;>done)
   split at h
   ·rename_i q ah a1 bp
    cases h;obtain ⟨cv,db,e8⟩:=key q bp a1 ah;exact ⟨_,by rw [z2,r6 w ⟨fun _=>⟨_,rfl⟩,cv⟩,g6,db],.bool _⟩
   ·rename_i q ah a1 bp
    cases h;obtain ⟨cv,db,e8⟩:=key q bp a1 ah;exact ⟨_,by rw [z2,r6 w ⟨fun _=>⟨_,rfl⟩,cv⟩,g6,e8],.bool _⟩
   ·cases h
  ·cases h
 ·split at h
  ·rename_i k z k' acu
   split at h
   ·rename_i k8
    subst k8;generalize a.eval x=dG at hu;generalize a.eval y=fJ at ar;cases hu;cases ar;obtain ⟨val,U,ad⟩:=PT (P:=P) (t:=t) h w p;exact ⟨val,by rw [z2,r6 w ⟨by simp,by simp⟩,g6,U],ad⟩
   ·cases h
  ·generalize a.eval x=dG at hu;generalize a.eval y=fJ at ar
   cases hu with|str hU _ b7=>cases ar with|str dL _ bR=>
   subst b7;subst bR;obtain ⟨val,U,ad⟩:=PU (P:=P) (t:=t) h w p;exact ⟨val,by rw [z2,r6 w ⟨by simp,by simp⟩,g6,U],ad⟩
  ·generalize a.eval x=dG at hu;generalize a.eval y=fJ at ar
   cases hu;cases ar;split at h
   ·rename_i aS
    obtain ⟨info,d,U,ad,al,-⟩:=aP.parts aS;have av:d = .bool:=by cases d<;>simp [eh] at al;rfl
    subst av;cases h;exact ⟨_,by rw [z2,r6 w ⟨by simp,by simp⟩,g6];exact run_eql_bool w t _ _ ad,.bool _⟩
   ·rename_i aS
    obtain ⟨info,d,U,ad,al,-⟩:=aP.parts aS;have av:d = .bool:=by cases d<;>simp [eh] at al;rfl
    subst av;cases h;exact ⟨_,by rw [z2,r6 w ⟨by simp,by simp⟩,g6];exact run_neq_bool w t _ _ ad,.bool _⟩
   ·cases h
  ·rename_i hU aaU dL fM
   generalize a.eval x=dG at hu;generalize a.eval y=fJ at ar;cases hu;cases ar;rename_i v1 Bp s1 cP fg v2 yK s2 c9 gf;have key:∀ e d i,P.underlying t=some (.pointer e)→Γ.get? e=some i→i.size≠0→(Op.equalIn (d+1) t (.pointer (some ⟨hU,0,none⟩)) (.pointer (some ⟨dL,0,none⟩))).run P w = .ok (hU==dL) w:=by
    intro e d i he aS bo;obtain ⟨l8,cX,nj,nk,uV,oR,-⟩:=aP.parts aS;have b':l8.size≠0:=by rw [oR];exact bo
    have ao:(sameAddr ⟨hU,0,none⟩ ⟨dL,0,none⟩).run P w = .ok (hU==dL) w:=by
     by_cases an:hU=dL
     ·subst an;rw [beq_self_eq_true];exact run_sameAddr_same w _
     ·rw [beq_eq_false_iff_ne.2 an]
      obtain ⟨r7,acq,cv⟩:=IN s1.choose_spec;obtain ⟨r8,ack,db⟩:=IN s2.choose_spec;exact run_sameAddr_other w (fun e=>an (ac5 Addr.block e)) cv db
    simp only [Op.equalIn,z2,run_underlying he,g6,sizeOf,typeInfo,run_program,nj,ac4];rw [f9 (by simpa using b')];exact ao
   split at h
   ·rename_i aS
    obtain ⟨info,d,U,ad,al,-⟩:=aP.parts aS;obtain ⟨e,rfl⟩:∃ e,d = .pointer e:=by cases d<;>simp [eh] at al;exact ⟨_,rfl⟩
    simp only [eh,r5.ptr.injEq] at al;subst al;split at h
    ·rename_i he
     cases h;exact ⟨_,by rw [z2,r6 w ⟨by simp,by simp⟩,g6];exact (uU C C fun d=>key e d _ ad he bc).1,.bool _⟩
    ·cases h
   ·rename_i aS
    obtain ⟨info,d,U,ad,al,-⟩:=aP.parts aS;obtain ⟨e,rfl⟩:∃ e,d = .pointer e:=by cases d<;>simp [eh] at al;exact ⟨_,rfl⟩
    simp only [eh,r5.ptr.injEq] at al;subst al;split at h
    ·rename_i he
     cases h;exact ⟨_,by rw [z2,r6 w ⟨by simp,by simp⟩,g6];exact (uU C C fun d=>key e d _ ad he bc).2,.bool _⟩
    ·cases h
   ·cases h
  ·cases h
def fy (env:Env):List Operand→Option (List af)
  | []=>some []
  | o::r=>match aJ env o with
    | some v=>match fy env r with
      | some vs=>some (v::vs)
      | none=>none
    | none=>none
theorem Bq {N:Nat} {B:fx} {ro:Option Nat} {env:Env} {s:ak} {a:Act} {w:World} {p:bO} (aI:dq N B ro env s a w p) {l:List Operand} {vs:List af}
  (h:fy env l=some vs):bD w p (l.map a.eval) vs:=by
 induction l generalizing vs with
 | nil=>cases h;exact .nil
 | cons o r aX=>
  simp only [fy] at h;split at h
  ·rename_i v ar
   split at h
   ·rename_i us hu;cases h;exact .cons _ _ _ _ (aI.aJ ar) (aX hu)
   ·cases h
  ·cases h
def eO:Nat→List af→List af→List af
 | _,[],cells=>cells
 | off,c::cs,cells=>eO (off+1) cs (cells.set off c)
def uW (place:Nat→Option (Nat×Nat)):List af→List (Nat×af)→Option (List af)
  | cells,[]=>some cells
  | cells,(i,v)::rest=>match place i,cellsOf v with
    | some (off,size),some cs=>match ad0 cs.length size&&al9 (off+size) cells.length with
      | true=>uW place (eO off cs cells) rest
      | false=>none
    | _,_=>none
def placesOf (Γ:cj):List (Nat×TypeId)→Option (List (Nat×Nat))
  | []=>some []
  | (off,t)::r=>match Γ.get? t with
    | some i=>match placesOf Γ r with
      | some l=>some ((off,i.size)::l)
      | none=>none
    | none=>none
def uX (env:Env):List (Nat×Operand)→Option (List (Nat×af))
  | []=>some []
  | (i,o)::r=>match aJ env o with
    | some v=>match uX env r with
      | some l=>some ((i,v)::l)
      | none=>none
    | none=>none
def yL (env:Env) (sz:Nat):Nat→List (Nat×Operand)→Option (List af)
  | _,[]=>some []
  | k,(i,o)::r=>match ad0 i k with
    | true=>match aJ env o with
      | some v=>match cellsOf v with
        | some cs=>match ad0 cs.length sz with
          | true=>match yL env sz (k+1) r with
            | some l=>some (v::l)
            | none=>none
          | false=>none
        | none=>none
      | none=>none
    | false=>none
def oS (Γ:cj) (o:Oper) (env:Env):Option af:=
  match o.op with
  | .move x=>aJ env x
  | .assign x=>aJ env x
  | .pick c a b=>match aJ env c with
    | some (.bool true)=>aJ env a
    | some (.bool false)=>aJ env b
    | _=>none
  | .binOp op t x y _=>match aJ env x,aJ env y with
    | some a,some b=>Bn Γ op t y a b
    | _,_=>none
  | .unOp .not _ x=>match aJ env x with
    | some (.bool b)=>some (.bool (!b))
    | _=>none
  | .extract x i=>match aJ env x with
    | some (.cg vs)=>nth vs i
    | _=>none
  | .fieldAddr s x f=>match Γ.get? s with
    | some ⟨.struct gn,_,_,_⟩=>match nth gn f with
      | some (off,t)=>match Γ.get? t with
        | some ⟨_,_+1,_,_⟩=>match aJ env x with
          | some (.ptr b o)=>some (.ptr b (o+off))
          | some (.bs cs o)=>some (.bs cs (o+off))
          | some (.lI _ cs)=>some (.bs cs off)
          | _=>none
        | _=>none
      | none=>none
    | _=>none
  | .field s x f=>match Γ.get? s with
    | some ⟨.struct gn,_,_,_⟩=>match nth gn f with
      | some (off,t)=>match Γ.get? t with
        | some i=>match aJ env x with
          | some (.agg cs)=>hD i cs off
          | _=>none
        | none=>none
      | none=>none
    | _=>none
  | .load t x=>match Γ.get? t with
    | some i=>match aJ env x with
      | some (.bs cs o)=>hD i cs o
      | some (.lI _ cs)=>hD i cs 0
      | _=>none
    | none=>none
  | .makeInterface t x=>match Γ.get? t with
    | some ⟨.iface _,_,_,_⟩=>none
    | some _=>match aJ env x with
      | some v=>some (.iface t v)
      | none=>none
    | none=>none
  | .makeFunc (.func f) first cap=>match fy env first.toList,fy env cap.toList with
    | some a,some c=>some (.func f a c)
    | _,_=>none
  | .nilCheck x=>match aJ env x with
    | some (.ptr b o)=>some (.ptr b o)
    | some (.bs cs o)=>some (.bs cs o)
    | some (.lI b cs)=>some (.lI b cs)
    | some (.func f a c)=>some (.func f a c)
    | _=>none
  | .typeAssert x _ t ok=>match Γ.get? t with
    | some ⟨.iface _,_,_,_⟩=>none
    | some i=>match aJ env x with
      | some (.iface bI v)=>match ad0 bI t,ok with
        | true,true=>some (.cg [v,.bool true])
        | true,false=>some v
        | false,true=>match ho i.zero with
          | some z=>some (.cg [z,.bool false])
          | none=>none
        | false,false=>none
      | some .nh=>match ok with
        | true=>match ho i.zero with
          | some z=>some (.cg [z,.bool false])
          | none=>none
        | false=>none
      | _=>none
    | none=>none
  | .call { callee := .builtin .len,args,argTypes }=>match args.toList,argTypes.toList with
    | [x],[t]=>match Γ.get? t with
      | some ⟨.ay _,_,_,_⟩=>match aJ env x with
        | some (.ay _ xs _)=>some (.int .i64 xs.length)
        | _=>none
      | some ⟨.str,_,_,_⟩=>match aJ env x with
        | some (.str l)=>some (.int .i64 l.length)
        | _=>none
      | _=>none
    | _,_=>none
  | .box _ x=>match aJ env x with
    | some v=>match cellsOf v with
      | some cs=>some (.bs cs 0)
      | none=>none
    | none=>none
  | .build t parts=>match Γ.get? t with
    | some ⟨.struct gn,_,_,z⟩=>match placesOf Γ gn,ho z,uX env parts.toList with
      | some pl,some (.agg aV),some ps=>match uW (nth pl) aV ps with
        | some cs=>some (.agg cs)
        | none=>none
      | _,_,_=>none
    | some ⟨.arr _ e,_,_,z⟩=>match Γ.get? e,ho z,uX env parts.toList with
      | some aG,some (.agg aV),some ps=>match uW (fun i=>some (i*aG.size,aG.size)) aV ps with
        | some cs=>some (.agg cs)
        | none=>none
      | _,_,_=>none
    | _=>none
  | .buildSlice t len parts=>match Γ.get? t with
    | some ⟨.ay e,_,_,_⟩=>match Γ.get? e with
      | some aG=>match ad0 parts.size len&&(al9 (len*aG.size) 16777216&&al9 len 16777216) with
        | true=>match yL env aG.size 0 parts.toList with
          | some xs=>some (.ay aG.size xs .clip)
          | none=>none
        | false=>none
      | none=>none
    | _=>none
  | _=>none
def gB (P:Program) (o:Oper) (a:Act) (w:World) (p:bO) (v:af):Prop:=
 ∃ val w' bg,(execOp a.eval o).run P w = .ok (.value val) w'∧Rel w' bg val v∧c8 w p w' bg∧(∀ s,df w p s→Kept s s w p w' bg∧df w' bg s)
theorem gB.same {P:Program} {o:Oper} {a:Act} {w:World} {p:bO} {v:af} {val:Value} (h:(execOp a.eval o).run P w = .ok (.value val) w) (aC:Rel w p val v) :
  gB P o a w p v:=⟨val,w,p,h,aC,.refl w p,fun s ao=>⟨.refl s w p,ao⟩⟩
theorem gB.alloc {P:Program} {o:Oper} {a:Act} {w:World} {p:bO} {v:af} {val:Value} (vs:Array Value) (t:TypeId) (az:∀ b o,p b o→b<w.heap.size)
  (h:(execOp a.eval o).run P w = .ok (.value val) (w.alloc (.cells vs t))) (aC:Rel (w.alloc (.cells vs t)) (p.dR w.heap.size True) val v) :
  gB P o a w p v:=
 ⟨val,_,_,h,aC,tk az _ _,fun _ ao=>⟨Bi _ _,yH ao _ _⟩⟩
theorem aW.mO {P:Program} {N:Nat} {o:Oper} {env:Env} {s:ak} {v:af} (av:gm o=true)
  (h:∀ ro B a w p,dq N B ro env s a w p→gB P o a w p v):aW P N o env s (fun x ai=>x=v∧ai=s) (fun _ _=>False):=by
 refine ⟨av,fun ro B a w p aI=>?_⟩;obtain ⟨val,w',bg,cK,aC,hle,aD⟩:=h ro B a w p aI;rw [cK];obtain ⟨lK,ie⟩:=aD s aI.wf;exact ⟨s,bg,hle,lK,ie,v,⟨rfl,rfl⟩,aC⟩
theorem gC {P:Program} {x:Sem Value} {v:Value} {w w':World} (h:x.run P w = .ok v w'):(do pure (.value (← x)):Sem Next).run P w = .ok (.value v) w':=by
 simp only [z2,h,g6,ac4]
theorem kP (b o n:Nat):(⟨b,o,none⟩:Addr).add n=⟨b,o+n,none⟩:=by
 unfold Addr.add;split<;>simp_all
theorem IP {w:World} {p:bO} {vs:List Value} {cells r:List af} {off:Nat} (aC:bD w p vs cells) (h:pN off cells=some r):bD w p (vs.drop off) r:=by
 rw [PR h];exact aC.drop off
theorem yM {P:Program} {Γ:cj} (aP:bM P Γ) {t:TypeId} {i:bL} (aS:Γ.get? t=some i) {w:World} {p:bO} {b base off:Nat} {vs:List Value} {cells:List af} {v:af}
  (aF:∀ j u,vs[j]? = some u→w.cell? ⟨b,base+j,none⟩=some u) (aC:bD w p vs cells) (h:hD i cells off=some v) :
  ∃ val,(loadVar t ⟨b,base+off,none⟩).run P w = .ok val w∧Rel w p val v:=by
 obtain ⟨info,d,U,ad,al,bd,-⟩:=aP.parts aS;unfold hD at h;split at h
 ·cases h
 ·rename_i r av
  have iW:=IP aC av;have jn:∀ j u,(vs.drop off)[j]? = some u→w.cell? ((⟨b,base+off,none⟩:Addr).add j)=some u:=by
   intro j u hu;rw [kP,ak4];exact aF _ _ (by simpa using hu)
  split at h
  ·rename_i gn br
   split at h
   ·rename_i cs hp
    cases h;obtain ⟨rfl,hlen⟩:=Bk hp;obtain ⟨f,rfl,-⟩:=yI (al.trans br);have aB:((vs.drop off).take i.size).length=info.size:=by rw [ac9,iW.length,bd];omega
    have yN:=run_loadCells_list (P:=P) w ⟨b,base+off,none⟩ ((vs.drop off).take i.size) (fun j u hu=>jn j u (by
     rw [af'] at hu;split at hu;exact hu;cases hu))
    rw [aB] at yN;refine ⟨_,?_,.agg _ _ (by simpa using iW.take i.size)⟩;simp only [loadVar,z2,w4 ad,g6,uS,ae2,sizeOf,typeInfo,run_program,U,ac4,yN]
   ·cases h
  ·rename_i IQ jo br
   split at h
   ·rename_i cs hp
    cases h;obtain ⟨rfl,hlen⟩:=Bk hp;obtain rfl:=yJ (al.trans br);have aB:((vs.drop off).take i.size).length=info.size:=by rw [ac9,iW.length,bd];omega
    have yN:=run_loadCells_list (P:=P) w ⟨b,base+off,none⟩ ((vs.drop off).take i.size) (fun j u hu=>jn j u (by
     rw [af'] at hu;split at hu;exact hu;cases hu))
    rw [aB] at yN;refine ⟨_,?_,.agg _ _ (by simpa using iW.take i.size)⟩;simp only [loadVar,z2,w4 ad,g6,uS,ae2,sizeOf,typeInfo,run_program,U,ac4,yN]
   ·cases h
  ·cases h
  ·rename_i ao a8 ah
   split at h
   ·rename_i x xs
    cases h;generalize IS:vs.drop off=PY at iW jn;cases iW with
    | cons u _ us _ ab aK=>
    have Br:=jn 0 u C;rw [kP,am4] at Br;refine ⟨u,?_,ab⟩;have Eh:=IL (d:=d) (fun gn=>by rw [al];exact ao gn) (fun n e=>by rw [al];exact a8 n e) (by rw [al];exact ah);simp [loadVar,w4 ad,Eh,Br]
   ·cases h
theorem PZ {P:Program} {Γ:cj} (aP:bM P Γ) {t:TypeId} {i:bL} (aS:Γ.get? t=some i) {w:World} {p:bO} {off:Nat} {vs:Array Value} {cells:List af} {v:af}
  (aC:bD w p vs.toList cells) (h:hD i cells off=some v):∃ val,(part t vs off).run P w = .ok val w∧Rel w p val v:=by
 obtain ⟨info,d,U,ad,al,bd,-⟩:=aP.parts aS;unfold hD at h;split at h
 ·cases h
 ·rename_i r av
  have iW:=IP aC av;split at h
  ·rename_i gn br
   split at h
   ·rename_i cs hp
    cases h;obtain ⟨rfl,hlen⟩:=Bk hp;obtain ⟨f,rfl,-⟩:=yI (al.trans br);refine ⟨.agg (vs.extract off (off+info.size)),?_,.agg _ _ ?_⟩
    ·simp only [part,z2,w4 ad,g6,uS,ae2,sizeOf,typeInfo,run_program,U,ac4]
    ·have:(vs.extract off (off+info.size)).toList=(vs.toList.drop off).take i.size:=by simp [as9,bd]
     rw [this];exact iW.take i.size
   ·cases h
  ·rename_i IQ jo br
   split at h
   ·rename_i cs hp
    cases h;obtain ⟨rfl,hlen⟩:=Bk hp;obtain rfl:=yJ (al.trans br);refine ⟨.agg (vs.extract off (off+info.size)),?_,.agg _ _ ?_⟩
    ·simp only [part,z2,w4 ad,g6,uS,ae2,sizeOf,typeInfo,run_program,U,ac4]
    ·have:(vs.extract off (off+info.size)).toList=(vs.toList.drop off).take i.size:=by simp [as9,bd]
     rw [this];exact iW.take i.size
   ·cases h
  ·cases h
  ·rename_i ao a8 ah
   split at h
   ·rename_i x xs
    cases h;generalize IS:vs.toList.drop off=PY at iW;cases iW with
    | cons u _ us _ ab aK=>
    have bo:vs[off]? = some u:=by
     have:=ac5 (fun l=>l[0]?) IS;simpa using this
    refine ⟨u,?_,ab⟩;have Eh:=IL (d:=d) (fun gn=>by rw [al];exact ao gn) (fun n e=>by rw [al];exact a8 n e) (by rw [al];exact ah);simp [part,w4 ad,Eh,bo]
   ·cases h
theorem P0 {w:World} {p:bO}:∀ (us:List Value) (cs:List af) (off:Nat) (vs:List Value) (xs:List af),bD w p us cs→bD w p vs xs →
  bD w p ((us.zipIdx).foldl (fun l (c,j)=>l.set (off+j) c) vs) (eO off cs xs):=by
 have key:∀ (us:List Value) (cs:List af) (off k:Nat) (vs:List Value) (xs:List af),bD w p us cs→bD w p vs xs →
   bD w p ((us.zipIdx k).foldl (fun l (c,j)=>l.set (off+j) c) vs) (eO (off+k) cs xs):=by
  intro us
  induction us with
  | nil=>intro cs off k vs xs h ar;cases h;exact ar
  | cons u us aX=>
   intro cs off k vs xs h ar;cases h with
   | cons _ c _ cs aF aK=>
    simp only [au6,af0,eO];have:=aX cs off (k+1) _ _ aK (ar.set (off+k) aF);rwa [← ak4] at this
 intro us cs off vs xs h ar;simpa using key us cs off 0 vs xs h ar
theorem IT (l:List (Value×Nat)) (off:Nat):∀ (vs:Array Value),(l.foldl (fun cs (c,j)=>cs.setIfInBounds (off+j) c) vs).toList=l.foldl (fun cs (c,j)=>cs.set (off+j) c) vs.toList:=by
 induction l with
 | nil=>intro vs;rfl
 | cons x l aX=>intro vs;simp only [af0,aX,Array.toList_setIfInBounds]
theorem IU {w:World} {p:bO} {place:Nat→Option (Nat×Nat)}:∀ (ps:List (Nat×Value)) (mP:List (Nat×af)) (vs:Array Value) (xs r:List af),
  ps.map (·.1)=mP.map (·.1)→bD w p (ps.map (·.2)) (mP.map (·.2))→bD w p vs.toList xs→uW place xs mP=some r →
  ∃ cs,Instr.fill place vs ps=some cs∧bD w p cs.toList r:=by
 intro ps
 induction ps with
 | nil=>
  intro mP vs xs r U ad al h;cases mP with
  | nil=>cases h;exact ⟨vs,rfl,al⟩
  | cons q mP=>simp at U
 | cons x ps aX=>
  intro mP vs xs r U ad al h;cases mP with
  | nil=>simp at U
  | cons q mP=>
   obtain ⟨i,v⟩:=x;obtain ⟨Bj,u⟩:=q;simp only [ac0,List.cons.injEq] at U;obtain ⟨rfl,U⟩:=U;simp only [ac0] at ad;cases ad with
   | cons _ _ _ _ ar aK=>
   simp only [uW] at h;split at h
   ·rename_i off size cs aE hp
    split at h
    ·rename_i tm
     simp only [f6] at tm;have b':=ab' tm.1;have hle:=al8 tm.2;have mQ:=pM ar hp;have eB:v.cells.size=size:=by rw [← b',← mQ.length,ac6]
     have ek:vs.size=xs.length:=by rw [← al.length,ac6]
     have IV:=P0 _ _ off _ _ mQ al;have bP:v.cells.toList.zipIdx=(v.cells.zipIdx).toList:=by simp
     rw [bP,← IT] at IV;obtain ⟨out,ah,yO⟩:=aX mP _ _ r U aK IV h;refine ⟨out,?_,yO⟩;simp only [Instr.fill,aE];rw [f0 (by simp [eB];omega),← ah,← at']
    ·cases h
   ·cases h
theorem IW {N:Nat} {B:fx} {ro:Option Nat} {env:Env} {s:ak} {a:Act} {w:World} {p:bO} (aI:dq N B ro env s a w p) {l:List (Nat×Operand)} {mP:List (Nat×af)}
  (h:uX env l=some mP):(l.map fun x=>(x.1,a.eval x.2)).map (·.1)=mP.map (·.1)∧bD w p ((l.map fun x=>(x.1,a.eval x.2)).map (·.2)) (mP.map (·.2)):=by
 induction l generalizing mP with
 | nil=>cases h;exact ⟨rfl,.nil⟩
 | cons x l aX=>
  obtain ⟨i,o⟩:=x;simp only [uX] at h;split at h
  ·rename_i v ar
   split at h
   ·rename_i r aC
    cases h;obtain ⟨U,ad⟩:=aX aC;exact ⟨by simp only [ac0,U],.cons _ _ _ _ (aI.aJ ar) ad⟩
   ·cases h
  ·cases h
theorem P1 {P:Program} {Γ:cj} (aP:bM P Γ) (gn:List Field):∀ {pl:List (Nat×Nat)},placesOf Γ (gn.map fun x=>(x.offset,x.type))=some pl →
  gn.mapM (fun f=>(P.info? f.type).map fun i=>(f.offset,i.size))=some pl:=by
 induction gn with
 | nil=>intro pl h;cases h;rfl
 | cons f gn aX=>
  intro pl h;simp only [ac0,placesOf] at h;split at h
  ·rename_i i aS
   split at h
   ·rename_i l aB
    cases h;obtain ⟨info,d,U,-,-,bd,-⟩:=aP.parts aS;simp [av7,U,aX aB,bd]
   ·cases h
  ·cases h
theorem IX (sz:Nat):∀ (vs:List Value) (k:Nat) (pre post:List Value),pre.length=k*sz→post.length=vs.length*sz→(∀ v∈vs,v.cells.size=sz) →
  Instr.fill (fun i=>some (i*sz,sz)) (pre++post).toArray ((vs.zipIdx k).map fun x=>(x.2,x.1))=some (pre++flat vs).toArray:=by
 intro vs
 induction vs with
 | nil=>intro k pre post U ad al;have:post=[]:=ag3 rX;subst this;simp [Instr.fill,flat]
 | cons v vs aX=>
  intro k pre post U ad al;have ar:=al v (i5 ..);simp only [au6,ac0,Instr.fill];have hlen:post.length=sz+vs.length*sz:=by rw [ad,i7,ah8];omega
  rw [f0 (by simp [ar];omega)];have uY:(Array.foldl (fun cs x=>cs.setIfInBounds (k*sz+x.2) x.1) (pre++post).toArray v.cells.zipIdx)=((pre++v.cells.toList)++post.drop sz).toArray:=by
   apply an0;rw [← at'];have:=IT v.cells.zipIdx.toList (k*sz) (pre++post).toArray;simp only at this ⊢;rw [this];have bP:v.cells.zipIdx.toList=v.cells.toList.zipIdx:=by simp
   rw [bP];have gen:∀ (us:List Value) (j:Nat) (a b:List Value),a.length=k*sz+j→us.length≤b.length →
     (us.zipIdx j).foldl (fun cs (x:Value×Nat)=>cs.set (k*sz+x.2) x.1) (a++b)=a++us++b.drop us.length:=by
    intro us
    induction us with
    | nil=>intro j a b _ _;simp
    | cons u us P2=>
     intro j a b a8 an;cases b with
     | nil=>simp at an
     | cons c b=>
      simp only [au6,af0,i7,al4];have:(a++c::b).set (k*sz+j) u=(a++[u])++b:=by
       rw [List.set_append_right _ _ ag];have:k*sz+j-a.length=0:=by omega
       rw [this];simp
      rw [this,P2 (j+1) (a++[u]) b cO (by simpa using an)];simp
   have fq:v.cells.toList.length=sz:=by rw [ac6,ar]
   have:=gen v.cells.toList 0 pre post ag (by rw [fq];omega);rw [fq] at this;simpa using this
  rw [uY];have:=aX (k+1) (pre++v.cells.toList) (post.drop sz) (by simp [U,ar,ah8]) (by rw [ag1,hlen];omega) (fun u hu=>al u (g7 _ hu));rw [this];simp [flat,ah4]
theorem P3 {N:Nat} {B:fx} {ro:Option Nat} {env:Env} {s:ak} {a:Act} {w:World} {p:bO} (aI:dq N B ro env s a w p) {sz:Nat}:∀ {l:List (Nat×Operand)} {k:Nat} {xs:List af},
    yL env sz k l=some xs→∃ vs:List Value,(l.map fun x=>(x.1,a.eval x.2))=(vs.zipIdx k).map (fun x=>(x.2,x.1))∧bD w p vs xs∧(∀ v∈vs,v.cells.size=sz)∧vs.length=l.length:=by
  intro l
  induction l with
  | nil=>intro k xs h;cases h;exact ⟨[],rfl,.nil,by simp,rfl⟩
  | cons x l aX=>
    intro k xs h;obtain ⟨i,o⟩:=x;simp only [yL] at h;split at h
    · rename_i an
      split at h
      · rename_i v ar
        split at h
        · rename_i cs hp
          split at h
          · rename_i aB
            split at h
            · rename_i r aC
              cases h;have:=ab' an;subst this;obtain ⟨vs,U,ad,al,bd⟩:=aX aC;have eG:=aI.aJ ar;have b':(a.eval o).cells.size=sz:=by
                rw [← ab' aB,← (pM eG hp).length,ac6]
              exact ⟨a.eval o::vs,by simp [U],.cons _ _ _ _ eG ad,by
                intro u hu;rcases ad4.1 hu with rfl|hu;exact b';exact al u hu,by simp [bd]⟩
            · cases h
          · cases h
        · cases h
      · cases h
    · cases h
section
variable {P:Program} {Γ:cj} (aP:bM P Γ) {N:Nat} {B:fx} {ro:Option Nat} {env:Env} {s:ak} {a:Act} {w:World} {p:bO} (aI:dq N B ro env s a w p)
include aI
theorem IY {o:Oper} {x:Operand} {v:af} (ah:o.op = .move x∨o.op = .assign x) (h:aJ env x=some v):gB P o a w p v:=by
 refine .same (val:=a.eval x) ?_ (aI.aJ h);unfold execOp;rcases ah with ah|ah<;>rw [ah]<;>rfl
theorem IZ {o:Oper} {c x y:Operand} {v:af} {t:Bool} (ah:o.op = .pick c x y) (aF:aJ env c=some (.bool t)) (h:aJ env (if t then x else y)=some v):gB P o a w p v:=by
 refine .same (val:=a.eval (if t then x else y)) ?_ (aI.aJ h);unfold execOp;rw [ah];simp only [Bh (aI.aJ aF),asBool,z2,ac4,g6];cases t<;>rfl
include aP
theorem P4 {o:Oper} {op:BinOp} {t yt:TypeId} {x y:Operand} {u v r:af} (ah:o.op = .binOp op t x y yt) (ab:aJ env x=some u) (ax:aJ env y=some v)
  (h:Bn Γ op t y u v=some r):gB P o a w p r:=by
 obtain ⟨val,U,ad⟩:=PW aP aI (yt:=yt) ab ax h;refine .same (val:=val) ?_ ad;unfold execOp;rw [ah];exact gC U
omit aP in
theorem P5 {o:Oper} {t:TypeId} {x:Operand} {b:Bool} (ah:o.op = .unOp .not t x) (ab:aJ env x=some (.bool b)):gB P o a w p (.bool (!b)):=by
 refine .same (val := .bool (!b)) ?_ (.bool _);unfold execOp;rw [ah];simp only [Bh (aI.aJ ab)];exact gC (by simp [Op.unary])
omit aP in
theorem P6 {o:Oper} {x:Operand} {i:Nat} {vs:List af} {v:af} (ah:o.op = .extract x i) (ab:aJ env x=some (.cg vs)) (h:nth vs i=some v):gB P o a w p v:=by
 have aC:=aI.aJ ab;generalize ar:a.eval x=dG at aC;cases aC with
 | cg us _ aB=>
 rw [w2] at h;obtain ⟨u,hu,yP⟩:=aB.get h;refine .same (val:=u) ?_ yP;unfold execOp;rw [ah];simp only [ar]
 exact gC (by
  have:us[i]? = some u:=by simpa using hu
  simp [Instr.extract,this])
theorem Ei {o:Oper} {S:TypeId} {x:Operand} {f sz l9:Nat} {gn:List (Nat×TypeId)} {z:Value} {off:Nat} {t:TypeId} {dM:bL} {v:af} (ah:o.op = .fieldAddr S x f)
  (b6:Γ.get? S=some ⟨.struct gn,sz,l9,z⟩) (a1:nth gn f=some (off,t)) (aK:Γ.get? t=some dM) (bo:dM.size≠0)
  (h:(∃ b o,aJ env x=some (.ptr b o)∧v = .ptr b (o+off))∨(∃ cs o,aJ env x=some (.bs cs o)∧v = .bs cs (o+off))∨(∃ b cs,aJ env x=some (.lI b cs)∧v = .bs cs off)):gB P o a w p v:=by
 obtain ⟨info,d,U,ad,al,-⟩:=aP.parts b6;obtain ⟨l8,cX,nj,nk,uV,oR,-⟩:=aP.parts aK;obtain ⟨yQ,rfl,jX⟩:=yI al;rw [w2,jX,ad7] at a1;obtain ⟨fd,Ej,Ek⟩:=av3.1 a1;cases Ek;have El:yQ[f]? = some fd:=by simpa using Ej
 have b':l8.size≠0:=by rw [oR];exact bo
 have key:∀ b o',a.eval x = .pointer (some ⟨b,o',none⟩)→(execOp a.eval o).run P w = .ok (.value (.pointer (some ⟨b,o'+fd.offset,none⟩))) w:=by
  intro b o' ab;unfold execOp;rw [ah];simp only [ab];refine gC ?_;simp [Instr.fieldAt,run_underlying ad,El,Instr.sureAddr,fieldPlace,sizeOf,typeInfo,nj,b',kP]
 rcases h with ⟨b,o',ab,rfl⟩|⟨cs,o',ab,rfl⟩|⟨b,cs,ab,rfl⟩
 ·have aC:=aI.aJ ab
  generalize ar:a.eval x=dG at aC;cases aC;exact .same (key _ _ ar) (.ptr _ _)
 ·have aC:=aI.aJ ab
  generalize ar:a.eval x=dG at aC;cases aC with
  | bs b base tn off vs _ lL aF gW=>
  exact .same (key _ _ ar) (.bs b base _ _ vs _ ag aF gW)
 ·have aC:=aI.aJ ab
  generalize ar:a.eval x=dG at aC;cases aC with
  | lI b vs _ _ _ aF gW=>
  exact .same (key _ _ ar) (.bs b 0 _ _ vs _ C aF gW)
theorem P7 {o:Oper} {S:TypeId} {x:Operand} {f sz l9:Nat} {gn:List (Nat×TypeId)} {z:Value} {off:Nat} {t:TypeId} {dM:bL} {cs:List af} {v:af} (ah:o.op = .field S x f)
  (b6:Γ.get? S=some ⟨.struct gn,sz,l9,z⟩) (a1:nth gn f=some (off,t)) (aK:Γ.get? t=some dM) (ab:aJ env x=some (.agg cs)) (h:hD dM cs off=some v):gB P o a w p v:=by
 obtain ⟨info,d,U,ad,al,-⟩:=aP.parts b6;obtain ⟨yQ,rfl,jX⟩:=yI al;rw [w2,jX,ad7] at a1;obtain ⟨fd,Ej,Ek⟩:=av3.1 a1;cases Ek;have El:yQ[f]? = some fd:=by simpa using Ej
 have aC:=aI.aJ ab;generalize ar:a.eval x=dG at aC;cases aC with
 | agg us _ aB=>
 obtain ⟨val,cK,eG⟩:=PZ aP aK aB h;refine .same (val:=val) ?_ eG;unfold execOp;rw [ah];simp only [ar];refine gC ?_;simp [Instr.field,run_underlying ad,El,asAgg,cK]
theorem I0 {o:Oper} {t:TypeId} {x:Operand} {i:bL} {cs:List af} {off:Nat} {v:af} (ah:o.op = .load t x) (aK:Γ.get? t=some i) (ab:aJ env x=some (.bs cs off))
  (h:hD i cs off=some v):gB P o a w p v:=by
 have aC:=aI.aJ ab;generalize ar:a.eval x=dG at aC;cases aC with
 | bs b base tn _ vs _ lL aF gW=>
 subst lL;obtain ⟨val,cK,eG⟩:=yM aP aK (b:=b) (base:=base) (fun j u hu=>(aF j u hu).2) gW h;refine .same (val:=val) ?_ eG;unfold execOp;rw [ah];simp only [ar];refine gC ?_;simp only [Instr.loadAt,Instr.sureAddr,z2,ac4,g6,cK]
theorem P8 {o:Oper} {t:TypeId} {x:Operand} {i:bL} {cs:List af} {b:Nat} {v:af} (ah:o.op = .load t x) (aK:Γ.get? t=some i) (ab:aJ env x=some (.lI b cs))
  (h:hD i cs 0=some v):gB P o a w p v:=by
 have aC:=aI.aJ ab;generalize ar:a.eval x=dG at aC;cases aC with
 | lI b vs _ _ _ aF gW=>
 obtain ⟨val,cK,eG⟩:=yM aP aK (b:=b) (base:=0) (fun j u hu=>(aF j u hu).2) gW h;refine .same (val:=val) ?_ eG;unfold execOp;rw [ah];simp only [ar];refine gC ?_;simp only [Instr.loadAt,Instr.sureAddr,z2,ac4,g6];simpa using cK
theorem P9 {o:Oper} {t:TypeId} {x:Operand} {i:bL} {v:af} (ah:o.op = .makeInterface t x) (aK:Γ.get? t=some i) (aS:∀ b,i.bE ≠ .iface b) (ab:aJ env x=some v) :
  gB P o a w p (.iface t v):=by
 obtain ⟨info,d,U,ad,al,-⟩:=aP.parts aK;refine .same (val := .iface t (a.eval x)) ?_ (.iface _ _ _ (aI.aJ ab));unfold execOp;rw [ah];refine gC ?_;have av:∀ ms,d ≠ .interface ms:=fun ms e=>by subst e;exact aS _ al.symm
 simp only [Instr.makeInterface,z2,run_underlying ad,g6];cases d<;>first|rfl|exact absurd C (av _)
omit aP in
theorem P' {o:Oper} {f:FuncId} {first cap:Array Operand} {yR hf:List af} (ah:o.op = .makeFunc (.func f) first cap) (a1:fy env first.toList=some yR) (aF:fy env cap.toList=some hf) :
  gB P o a w p (.func f yR hf):=by
 refine .same (val := .func (.func f) (first.map a.eval) (cap.map a.eval)) ?_ (.func _ _ _ _ _ (by simpa using Bq aI a1) (by simpa using Bq aI aF));unfold execOp;rw [ah];exact gC C
omit aP in
theorem Bs {o:Oper} {x:Operand} {v:af} (ah:o.op = .nilCheck x) (ab:aJ env x=some v) (h:(∃ b o,v = .ptr b o)∨(∃ cs o,v = .bs cs o)∨(∃ b cs,v = .lI b cs)∨(∃ f a c,v = .func f a c)):gB P o a w p v:=by
 have aC:=aI.aJ ab;refine .same (val:=a.eval x) ?_ aC;unfold execOp;rw [ah];simp only [];rcases h with ⟨b,o',rfl⟩|⟨cs,o',rfl⟩|⟨b,cs,rfl⟩|⟨f,as,cs,rfl⟩<;>generalize ar:a.eval x=dG at aC<;>cases aC<;>rfl
theorem Bt {o:Oper} {x:Operand} {Bu t:TypeId} {i:bL} {ok:Bool} {u v:af} (ah:o.op = .typeAssert x Bu t ok) (aK:Γ.get? t=some i) (aS:∀ b,i.bE ≠ .iface b) (ab:aJ env x=some u)
  (h:(∃ y,u = .iface t y∧v=if ok then .cg [y,.bool true] else y) ∨
   (ok=true∧(u = .nh∨∃ bI y,bI≠t∧u = .iface bI y)∧∃ z,ho i.zero=some z∧v = .cg [z,.bool false])):gB P o a w p v:=by
 obtain ⟨info,d,U,ad,al,bd,bB,gN⟩:=aP.parts aK;have av:∀ ms,d ≠ .interface ms:=fun ms e=>by subst e;exact aS _ al.symm
 have aC:=aI.aJ ab;generalize ar:a.eval x=dG at aC;have bP:(zeroValue t).run P w = .ok i.zero w:=by simp [zeroValue,typeInfo,U,gN]
 rcases h with ⟨y,rfl,rfl⟩|⟨rfl,hu,z,Bv,rfl⟩
 ·cases aC with
  | iface _ val _ ax=>
  have cK:(Instr.typeAssert (.iface t val) Bu t ok).run P w = .ok (if ok then .tuple #[val,.bool true] else val) w:=by
   cases d<;>first|exact absurd C (av _)|(simp only [Instr.typeAssert,z2,run_underlying ad,g6,ae2,ac4])
  refine .same (val:=if ok then .tuple #[val,.bool true] else val) ?_ (by cases ok;exact ax;exact .cg _ _ (.cons _ _ _ _ ax (.cons _ _ _ _ (.bool _) .nil)));unfold execOp;rw [ah];simp only [ar];exact gC cK
 ·have cK:(Instr.typeAssert dG Bu t true).run P w = .ok (.tuple #[i.zero,.bool false]) w:=by
   rcases hu with rfl|⟨bI,y,cp,rfl⟩
   ·cases aC
    cases d<;>first|exact absurd C (av _)|(simp only [Instr.typeAssert,z2,run_underlying ad,g6,ae2,bP,ac4])
   ·cases aC
    cases d<;>first|exact absurd C (av _)|(simp only [Instr.typeAssert,z2,run_underlying ad,g6,ae2,f0 cp,bP,ac4])
  refine .same (val := .tuple #[i.zero,.bool false]) ?_ (.cg _ _ (.cons _ _ _ _ (pO Bv) (.cons _ _ _ _ (.bool _) .nil)));unfold execOp;rw [ah];simp only [ar];exact gC cK
theorem I1 {o:Oper} {x:Operand} {t:TypeId} {i:bL} {u:af} {n:Nat} (ah:o.op = .call { callee := .builtin .len,args := #[x],argTypes := #[t] }) (aK:Γ.get? t=some i) (ab:aJ env x=some u)
  (h:(∃ e sz xs own,i.bE = .ay e∧u = .ay sz xs own∧n=xs.length)∨(∃ l,i.bE = .str∧u = .str l∧n=l.length)):gB P o a w p (.int .i64 n):=by
 obtain ⟨info,d,U,ad,al,-⟩:=aP.parts aK;have aC:=aI.aJ ab;generalize ar:a.eval x=dG at aC;refine .same (val := .int .i64 n) ?_ (.int _ _);unfold execOp;rw [ah];simp only [resolve,invoke,builtin,z2,ac4,g6,ao8,ac0,ae3,ar];rcases h with ⟨e,sz,xs,own,br,rfl,rfl⟩|⟨l,br,rfl,rfl⟩
 ·have av:d = .slice e:=by rw [br] at al;cases d<;>simp [eh] at al;rw [al]
  subst av;cases aC with
  | hL=>simp [Builtin.len_,run_underlying ad,goInt]
  | ib=>simp [Builtin.len_,run_underlying ad,goInt]
  | ay g off n cap sz vs _ _ aA aB aF aC ao hm aD cu ah=>simp [Builtin.len_,run_underlying ad,goInt,aB]
 ·have av:d = .string:=by rw [br] at al;cases d<;>simp [eh] at al;rfl
  subst av;cases aC with
  | str b _ e=>subst e;simp [Builtin.len_,run_underlying ad,goInt]
omit aP in
theorem Qa {o:Oper} {t:TypeId} {x:Operand} {v:af} {cs:List af} (ah:o.op = .box t x) (ab:aJ env x=some v) (aF:cellsOf v=some cs):gB P o a w p (.bs cs 0):=by
 have aC:=aI.aJ ab;have mQ:=pM aC aF;refine gB.alloc (a.eval x).cells t aI.wf.lt (val := .pointer (some ⟨w.heap.size,0,none⟩)) ?_ ?_
 ·unfold execOp
  rw [ah];exact gC C
 ·refine .bs _ 0 0 0 (a.eval x).cells.toList _ C ?_ (mQ.mono (tk aI.wf.lt _ _))
  have:=Ec (w:=w) (p:=p) (a.eval x).cells.toList t;simpa using this
theorem Qb {o:Oper} {t:TypeId} {parts:Array (Nat×Operand)} {gn:List (Nat×TypeId)} {sz l9:Nat} {z:Value} {pl:List (Nat×Nat)} {aV cs:List af} {ps:List (Nat×af)}
  (ah:o.op = .build t parts) (aK:Γ.get? t=some ⟨.struct gn,sz,l9,z⟩) (ig:placesOf Γ gn=some pl) (bP:ho z=some (.agg aV)) (nm:uX env parts.toList=some ps)
  (h:uW (nth pl) aV ps=some cs):gB P o a w p (.agg cs):=by
 obtain ⟨info,d,U,ad,al,bd,bB,gN⟩:=aP.parts aK;obtain ⟨yQ,rfl,jX⟩:=yI al;rw [jX] at ig;have Qc:=P1 aP yQ.toList ig;have Em:=pO (w:=w) (p:=p) bP;obtain ⟨b7,bR⟩:=IW aI nm;have tp:bD w p z.cells.toList aV:=pM Em C;have Qd:(fun x=>pl.toArray[x]?)=nth pl:=by funext x;rw [w2];simp
 obtain ⟨out,r9,pP⟩:=IU _ _ z.cells aV cs b7 bR tp h;refine .same (val := .agg out) ?_ (.agg _ _ pP);unfold execOp;rw [ah];refine gC (run_build w t _ out ?_);unfold Program.built;simp only [U,ad,gN,Qc];rw [Qd];simpa using r9
theorem Qe {o:Oper} {t e:TypeId} {n:Nat} {parts:Array (Nat×Operand)} {sz l9:Nat} {z:Value} {aG:bL} {aV cs:List af} {ps:List (Nat×af)}
  (ah:o.op = .build t parts) (aK:Γ.get? t=some ⟨.arr n e,sz,l9,z⟩) (he:Γ.get? e=some aG) (bP:ho z=some (.agg aV)) (nm:uX env parts.toList=some ps)
  (h:uW (fun i=>some (i*aG.size,aG.size)) aV ps=some cs):gB P o a w p (.agg cs):=by
 obtain ⟨info,d,U,ad,al,bd,bB,gN⟩:=aP.parts aK;obtain ⟨l8,cX,nj,nk,uV,oR,I2,Bw⟩:=aP.parts he;obtain rfl:=yJ al;have Em:=pO (w:=w) (p:=p) bP;obtain ⟨b7,bR⟩:=IW aI nm;have tp:bD w p z.cells.toList aV:=pM Em C;obtain ⟨out,r9,pP⟩:=IU _ _ z.cells aV cs b7 bR tp h;refine .same (val := .agg out) ?_ (.agg _ _ pP);unfold execOp;rw [ah];refine gC (run_build w t _ out ?_);unfold Program.built;simp only [U,ad,gN,nj,oR];simpa using r9
theorem Qf {o:Oper} {t e:TypeId} {len:Nat} {parts:Array (Nat×Operand)} {sz l9:Nat} {z:Value} {aG:bL} {xs:List af}
  (ah:o.op = .buildSlice t len parts) (aK:Γ.get? t=some ⟨.ay e,sz,l9,z⟩) (he:Γ.get? e=some aG) (hlen:parts.size=len) (Bx:len*aG.size≤16777216) (aaV:len≤16777216)
  (h:yL env aG.size 0 parts.toList=some xs):gB P o a w p (.ay aG.size xs .clip):=by
 obtain ⟨info,d,U,ad,al,-⟩:=aP.parts aK;obtain ⟨l8,cX,nj,nk,uV,oR,I2,Bw⟩:=aP.parts he;have av:d = .slice e:=by cases d<;>simp [eh] at al;rw [al]
 subst av;obtain ⟨vs,b7,bR,eE,ko⟩:=P3 aI h;have fq:vs.length=len:=by rw [ko,ac6,hlen]
 have jX:(flat vs).length=len*aG.size:=by
  rw [← fq];clear b7 bR ko fq h
  induction vs with
  | nil=>simp [flat]
  | cons v vs aX=>
   have:=aX (fun u hu=>eE u (g7 _ hu));simp only [flat,ah4,d9,ac6,i7] at this ⊢;rw [eE v (i5 ..)];have eT:(aA3 (fun v=>v.cells.toList) vs).length=vs.length*aG.size:=this;rw [eT,ah8];omega
 have r9:∀ sa:Array Value,sa.size=len*aG.size→Instr.fill (fun i=>some (i*aG.size,aG.size)) sa (parts.map fun x=>(x.1,a.eval x.2)).toList=some (flat vs).toArray:=by
  intro sa n6;have:=IX aG.size vs 0 [] sa.toList bc (by rw [ac6,n6,fq]) eE;simp only [d7] at this;rw [Array.toList_map,b7];simpa using this
 refine gB.alloc (flat vs).toArray e aI.wf.lt (val := .slice (some ⟨w.heap.size,0,none⟩) len len) ?_ ?_
 ·unfold execOp
  rw [ah];refine gC ?_;have aaW:¬ (16777216<len*aG.size):=by omega
  have oT:¬ (len*aG.size>2^24):=by omega
  unfold Instr.buildSlice;simp only [z2,run_underlying ad,g6,sizeOf,typeInfo,run_program,nj,ac4,oR,f0 oT];by_cases bo:len*aG.size=0
  ·rw [f9 bo,z2,ac4,g6,r9 _ bc]
   rfl
  ·rw [f0 bo]
   simp only [zeroValue,typeInfo,z2,run_program,nj,Bw,ac4,g6];rw [r9 _ bc];rfl
 ·refine .ay _ 0 _ _ _ vs _ _ bc (by rw [← bR.length,fq]) ?_ (bR.mono (tk aI.wf.lt _ _)) eE ?_ (i0 _) (fun _=>rfl) (fun b an=>by cases an)
  ·exact Ec (w:=w) (p:=p) (flat vs) e
  ·omega
theorem I3 {o:Oper} {v:af} (h:oS Γ o env=some v):gB P o a w p v:=by
 unfold oS at h;split at h
 ·rename_i x ah;exact IY aI (.inl ah) h
 ·rename_i x ah;exact IY aI (.inr ah) h
 ·rename_i c x y ah
  split at h
  ·rename_i aF;exact IZ aI (t:=true) ah aF h
  ·rename_i aF;exact IZ aI (t:=false) ah aF h
  ·cases h
 ·rename_i op t x y yt ah
  split at h
  ·rename_i u fj ab ax;exact P4 aP aI ah ab ax h
  ·cases h
 ·rename_i t x ah
  split at h
  ·rename_i b an;cases h;exact P5 aI ah an
  ·cases h
 ·rename_i x i ah
  split at h
  ·rename_i vs ab;exact P6 aI ah ab h
  ·cases h
 ·rename_i S x f ah
  split at h
  ·rename_i gn sz l9 z b6
   split at h
   ·rename_i off t a1
    split at h
    ·rename_i bE n Qg acw aK
     split at h
     ·rename_i b o' ab;cases h;exact Ei aP aI ah b6 a1 aK bc (.inl ⟨_,_,ab,rfl⟩)
     ·rename_i cs o' ab;cases h;exact Ei aP aI ah b6 a1 aK bc (.inr (.inl ⟨_,_,ab,rfl⟩))
     ·rename_i b cs ab;cases h;exact Ei aP aI ah b6 a1 aK bc (.inr (.inr ⟨_,_,ab,rfl⟩))
     ·cases h
    ·cases h
   ·cases h
  ·cases h
 ·rename_i S x f ah
  split at h
  ·rename_i gn sz l9 z b6
   split at h
   ·rename_i off t a1
    split at h
    ·rename_i i aK
     split at h
     ·rename_i cs ab;exact P7 aP aI ah b6 a1 aK ab h
     ·cases h
    ·cases h
   ·cases h
  ·cases h
 ·rename_i t x ah
  split at h
  ·rename_i i aK
   split at h
   ·rename_i cs o' ab;exact I0 aP aI ah aK ab h
   ·rename_i b cs ab;exact P8 aP aI ah aK ab h
   ·cases h
  ·cases h
 ·rename_i t x ah
  split at h
  ·cases h
  ·rename_i i En aK
   split at h
   ·rename_i u ab;cases h;exact P9 aP aI ah aK (fun b e=>by obtain ⟨dm,a2,a3,a4⟩:=i;simp only at e;subst e;exact En _ _ _ _ C) ab
   ·cases h
  ·cases h
 ·rename_i f first cap ah
  split at h
  ·rename_i yR hf U ad;cases h;exact P' aI ah U ad
  ·cases h
 ·rename_i x ah
  split at h
  ·rename_i b o' ab;cases h;exact Bs aI ah ab (.inl ⟨_,_,rfl⟩)
  ·rename_i cs o' ab;cases h;exact Bs aI ah ab (.inr (.inl ⟨_,_,rfl⟩))
  ·rename_i b cs ab;cases h;exact Bs aI ah ab (.inr (.inr (.inl ⟨_,_,rfl⟩)))
  ·rename_i f yR hf ab;cases h;exact Bs aI ah ab (.inr (.inr (.inr ⟨_,_,_,rfl⟩)))
  ·cases h
 ·rename_i x Bu t ok ah
  split at h
  ·cases h
  ·rename_i i En aK
   have By:∀ b,i.bE ≠ .iface b:=fun b e=>by obtain ⟨dm,a2,a3,a4⟩:=i;simp only at e;subst e;exact En _ _ _ _ C
   split at h
   ·rename_i bI u ab
    split at h
    ·rename_i an;cases h;have:=ab' an;subst this;exact Bt aP aI ah aK By ab (.inl ⟨u,rfl,rfl⟩)
    ·rename_i an;cases h;have:=ab' an;subst this;exact Bt aP aI ah aK By ab (.inl ⟨_,rfl,rfl⟩)
    ·rename_i an
     split at h
     ·rename_i z bP;cases h
      exact Bt aP aI ah aK By ab (.inr ⟨rfl,.inr ⟨bI,u,(fun e=>by subst e;simp at an),rfl⟩,z,bP,rfl⟩)
     ·cases h
    ·cases h
   ·rename_i ab
    split at h
    ·split at h
     ·rename_i z bP;cases h
      exact Bt aP aI ah aK By ab (.inr ⟨rfl,.inl C,z,bP,rfl⟩)
     ·cases h
    ·cases h
   ·cases h
  ·cases h
 ·rename_i args argTypes ah
  split at h
  ·rename_i x t U ad
   have b7:args = #[x]:=by apply an0;simpa using U
   have bR:argTypes = #[t]:=by apply an0;simpa using ad
   subst b7;subst bR;split at h
   ·rename_i e sz l9 z aK
    split at h
    ·rename_i sz' xs own ab;cases h;exact I1 aP aI ah aK ab (.inl ⟨_,_,_,_,rfl,rfl,rfl⟩)
    ·cases h
   ·rename_i sz l9 z aK
    split at h
    ·rename_i l ab;cases h;exact I1 aP aI ah aK ab (.inr ⟨_,rfl,rfl,rfl⟩)
    ·cases h
   ·cases h
  ·cases h
 ·rename_i t x ah
  split at h
  ·rename_i u ab
   split at h
   ·rename_i cs aF;cases h;exact Qa aI ah ab aF
   ·cases h
  ·cases h
 ·rename_i t parts ah
  split at h
  ·rename_i gn sz l9 z aK
   split at h
   ·rename_i pl aV ps ig bP nm
    split at h
    ·rename_i cs hp;cases h;exact Qb aP aI ah aK ig bP nm hp
    ·cases h
   ·cases h
  ·rename_i IQ jo sz l9 z aK
   split at h
   ·rename_i aG aV ps he bP nm
    split at h
    ·rename_i cs hp;cases h;exact Qe aP aI ah aK he bP nm hp
    ·cases h
   ·cases h
  ·cases h
 ·rename_i t len parts ah
  split at h
  ·rename_i e sz l9 z aK
   split at h
   ·rename_i aG he
    split at h
    ·rename_i tm
     simp only [f6] at tm;split at h
     ·rename_i xs ek;cases h
      exact Qf aP aI ah aK he (ab' tm.1) (al8 tm.2.1) (al8 tm.2.2) ek
     ·cases h
    ·cases h
   ·cases h
  ·cases h
 ·cases h
omit aI aP in
theorem I4 {o:Oper} {v:af} (h:oS Γ o env=some v):gm o=true:=by
 unfold gm;cases ah:o.op<;>first|rfl|(unfold oS at h;rw [ah] at h;cases h)
omit aI in
theorem aW.oS {o:Oper} {v:af} (h:Go.Proofs.YtnafpeohfbglmaaGreat.oS Γ o env=some v):aW P N o env s (fun x ai=>x=v∧ai=s) (fun _ _=>False):=
 aW.mO (I4 h) fun _ _ _ _ _ aI=>I3 aP aI h
omit aI in
theorem fp.step {ops:Array Oper} {Q:bX→Env→ak→Prop} {i:Nat} {l:List Nat} {o:Oper} {d:Nat} {v:af} (ah:ops[i]? = some o) (au:guardOf ops env o=some true)
  (av:o.dst=some d) (aY:i9 d N=true) (ar:Go.Proofs.YtnafpeohfbglmaaGreat.oS Γ o env=some v) (h:fp P N ops l Q ((d,v)::env) s):fp P N ops (i::l) Q env s:=
 fp.op ah au av aY (aW.oS aP ar) (fun x ai ⟨U,ad⟩=>by subst U;subst ad;exact h) (fun _ _ h=>h.elim)
end
def ak.set (s:ak) (b:Nat) (o:ds):ak:=fun aT=>if aT=b then some o else s aT
def ak.del (s:ak) (b:Nat):ak:=fun aT=>if aT=b then none else s aT
theorem ak.fT (s:ak) (b:Nat) (o:ds):s.set b o b=some o:=by simp [ak.set]
theorem ak.fk (s:ak) {b aT:Nat} (o:ds) (h:aT≠b):s.set b o aT=s aT:=by simp [ak.set,h]
theorem ak.mR (s:ak) (b:Nat):s.del b b=none:=by simp [ak.del]
theorem ak.l' (s:ak) {b aT:Nat} (h:aT≠b):s.del b aT=s aT:=by simp [ak.del,h]
theorem ak.tq {s:ak} {b aT:Nat} {o:ds} (h:s.set b o aT=none):aT≠b∧s aT=none:=by
 unfold ak.set at h;split at h
 ·cases h
 ·exact ⟨‹_›,h⟩
theorem ak.uZ (s:ak) (b:Nat) (o:ds) (h:s b=none):ak.Sub s (s.set b o):=fun aT=>by
 by_cases e:aT=b
 ·subst e;exact .inr h
 ·exact .inl (by rw [ak.fk _ _ e])
theorem ak.n7 (s:ak):ak.Sub s s:=fun _ => .inl rfl
theorem ak.Sub.trans {a b c:ak} (h:ak.Sub a b) (k:ak.Sub b c):ak.Sub a c:=fun x=>by
 rcases h x with e|e
 ·rcases k x with e'|e'
  ·exact .inl (e.trans e')
  ·exact .inr (e.trans e')
 ·exact .inr e
theorem ak.yS (s:ak) (b:Nat) (o:ds) (h:s b=none):(s.set b o).del b=s:=by
 funext aT;by_cases e:aT=b
 ·subst e;simp [ak.del,h]
 ·simp [ak.del,ak.set,e]
theorem ak.set_set (s:ak) (b:Nat) (o o':ds):(s.set b o).set b o'=s.set b o':=by
 funext aT;by_cases e:aT=b<;>simp [ak.set,e]
theorem pK.lt {w:World} {p:bO} {b:Nat} {o:ds} (h:pK w p b o):b<w.heap.size:=by
 cases o with
 | box t cs=>obtain ⟨vs,U,-⟩:=h;exact (i8.1 U).1
 | row t sz n=>obtain ⟨vs,U,-⟩:=h;exact (i8.1 U).1
 | map es=>obtain ⟨vs,c,U,-⟩:=h;exact (i8.1 U).1
 | kN es it l c=>obtain ⟨_,_,_,U,-⟩:=h;exact (i8.1 U).1
 | tick m=>obtain ⟨_,_,_,U⟩:=h;exact (i8.1 U).1
 | loop r env=>exact (i8.1 h.1).1
theorem qR {w:World} {p:bO} {s:ak} (b5:df w p s) (o:Obj) (x:ds) (ab:∀ w':World,w'.heap[w.heap.size]? = some o→(∀ v y,Rel w p v y→Rel w' p v y)→(∀ vs ys,bD w p vs ys→bD w' p vs ys)→pK w' p w.heap.size x) :
  s w.heap.size=none∧c8 w p (w.alloc o) p∧Kept s (s.set w.heap.size x) w p (w.alloc o) p∧df (w.alloc o) p (s.set w.heap.size x):=by
 have aA:s w.heap.size=none:=by
  cases h:s w.heap.size with
  | none=>rfl
  | some o'=>exact absurd (b5.obj _ _ h).lt ag
 have hle:c8 w p (w.alloc o) p:=c8.of_heap C C C bc (fun _ _ h=>h) b5.lt (fun b an=>lJ w o b an);refine ⟨aA,hle,⟨fun b an _=>lJ w o b an,fun b an ao=>by rw [ak.fk _ _ ag];exact ao,fun _ _ _ _ h=>h⟩,?_⟩;have au:=b5.grow hle (fun b an=>lJ w o b an) (fun _ _ _ h=>h) (fun b o aE=>by have:=b5.lt b o aE;simp;omega);refine ⟨fun b o' an=>?_,au.lt⟩;by_cases e:b=w.heap.size
 ·subst e
  rw [ak.fT] at an;cases an;exact ab _ (tj w o) (fun _ _ h=>h.mono hle) (fun _ _ h=>h.mono hle)
 ·rw [ak.fk _ _ e] at an
  exact au.obj b o' an
section
variable {P:Program} {Γ:cj} {N:Nat} {env:Env} {s:ak}
theorem aW.jY {o:Oper} {K X:af→ak→Prop} (av:gm o=true)
  (h:∀ ro B a w p,dq N B ro env s a w p→∃ val w' ai bg x,(execOp a.eval o).run P w = .ok (.value val) w'∧c8 w p w' bg∧Kept s ai w p w' bg∧df w' bg ai∧K x ai∧Rel w' bg val x) :
  aW P N o env s K X:=by
 refine ⟨av,fun ro B a w p aI=>?_⟩;obtain ⟨val,w',ai,bg,x,aC,U,ad,al,bd,bB⟩:=h ro B a w p aI;rw [aC];exact ⟨ai,bg,U,ad,al,x,bd,bB⟩
theorem aW.Eo {o:Oper} {K X:af→ak→Prop} (av:gm o=true)
  (h:∀ ro B a w p,dq N B ro env s a w p→∃ w' ai bg,(execOp a.eval o).run P w = .ok .skip w'∧c8 w p w' bg∧Kept s ai w p w' bg∧df w' bg ai∧K (.cg []) ai) :
  aW P N o env s K X:=by
 refine ⟨av,fun ro B a w p aI=>?_⟩;obtain ⟨w',ai,bg,aC,U,ad,al,bd⟩:=h ro B a w p aI;rw [aC];exact ⟨ai,bg,U,ad,al,_,bd,Eb⟩
theorem aW.alloc (aP:bM P Γ) {o:Oper} {t:TypeId} {i:bL} {z:af} {cs:List af} (ah:o.op = .alloc t) (aK:Γ.get? t=some i) (bP:ho i.zero=some z) (aF:cellsOf z=some cs) {X:af→ak→Prop} :
  aW P N o env s (fun x ai=>∃ b,s b=none∧x = .ptr b 0∧ai=s.set b (.box t cs)) X:=by
 refine aW.jY (by simp [gm,ah]) fun ro B a w p aI=>?_
 obtain ⟨info,d,U,ad,al,bd,bB,gN⟩:=aP.parts aK
 obtain ⟨aA,hle,aD,b5⟩:=qR aI.wf (.cells i.zero.cells t (0,0)) (.box t cs) (fun w' h2 aC gW=>
  ⟨i.zero.cells,h2,gW _ _ (pM (pO bP) aF),fun o' aE=>absurd (aI.wf.lt _ _ aE) ag⟩)
 refine ⟨.pointer (some ⟨w.heap.size,0,none⟩),_,_,p,_,?_,hle,aD,b5,⟨w.heap.size,aA,rfl,rfl⟩,.ptr _ _⟩;unfold execOp;rw [ah];refine gC ?_;simp [Instr.alloc,zeroValue,typeInfo,U,gN,newVar,newRow]
theorem jq {w:World} {b:Nat} {vs:Array Value} {t:TypeId} {gV:Nat×Nat} (h:w.heap[b]? = some (.cells vs t gV)) (j:Nat):w.cell? ⟨b,j,none⟩=vs[j]?:=by
 simp [World.cell?,h]
theorem aW.tr (aP:bM P Γ) {o:Oper} {t T:TypeId} {x:Operand} {i:bL} {b off:Nat} {cs:List af} {v:af} (ah:o.op = .load t x) (aK:Γ.get? t=some i) (ab:aJ env x=some (.ptr b off))
  (ao:s b=some (.box T cs)) (h:hD i cs off=some v) {X:af→ak→Prop}:aW P N o env s (fun x ai=>x=v∧ai=s) X:=by
 refine aW.jY (by simp [gm,ah]) fun ro B a w p aI=>?_
 have aC:=aI.aJ ab;generalize ar:a.eval x=dG at aC;cases aC;obtain ⟨vs,U,ad,al⟩:=aI.wf.obj _ _ ao;obtain ⟨val,cK,eG⟩:=yM aP aK (b:=b) (base:=0) (vs:=vs.toList) (fun j u hu=>by rw [ad8,jq U];simpa using hu) ad h;refine ⟨val,w,s,p,v,?_,.refl w p,.refl s w p,aI.wf,⟨rfl,rfl⟩,eG⟩;unfold execOp;rw [ah];simp only [ar];refine gC ?_;rw [ad8] at cK;simp only [Instr.loadAt,Instr.sureAddr,z2,ac4,g6,cK]
theorem u0 {w:World} {p:bO} (b5:df w p s) {b:Nat} {T:TypeId} {cs:List af} (ao:s b=some (.box T cs)) {vs':Array Value} {cs':List af}
    (b':∀ vs,w.heap[b]? = some (.cells vs T (0,0))→vs'.size=vs.size) (aC:bD w p vs'.toList cs') (w':World) (h2:w'=w.setRow b vs') :
    c8 w p w' p∧Kept s (s.set b (.box T cs')) w p w' p∧df w' p (s.set b (.box T cs')):=by
  subst h2;obtain ⟨vs,U,ad,al⟩:=b5.obj _ _ ao;have az:b<w.heap.size:=(i8.1 U).1;have dF:=setRow_heap w b vs vs' T (0,0) U;have hM:∀ k,k≠b→(w.setRow b vs').heap[k]? = w.heap[k]? := fun k aD=>setRow_other w b k vs' aD
  have hle:c8 w p (w.setRow b vs') p:=by
    refine ⟨rfl,rfl,rfl,by simp,fun _ _ h=>h,fun aT o aE=>w0 (hM aT (fun e=>al o (e ▸ aE))),fun aT x ab=>?_⟩;by_cases e:aT=b
    · subst e
      have Qh:=b' vs U;simp only [World.kk,U,dF] at ab ⊢;rw [Qh];exact ab
    · rw [wZ (hM aT e)];exact ab
  refine ⟨hle,⟨fun aT an aA=>hM aT (fun e=>by rw [e,ao] at aA;simp at aA),fun aT an aA=>by
    rw [ak.fk]
    · exact aA
    · intro e;rw [e,ao] at aA;simp at aA,fun _ _ _ _ h=>h⟩,?_,fun aT o aE=>by simpa using b5.lt aT o aE⟩
  intro aT o' nn;by_cases e:aT=b
  · subst e
    rw [ak.fT] at nn;cases nn;exact ⟨vs',dF,aC.mono hle,al⟩
  · rw [ak.fk _ _ e] at nn
    have ah:=b5.obj aT o' nn;have c6:=hM aT e;cases o' with
    | box t c=>obtain ⟨us,g1,g2,g3⟩:=ah;exact ⟨us,c6.trans g1,g2.mono hle,g3⟩
    | row t sz n=>obtain ⟨cur,g1,g2,g3,g4⟩:=ah;exact ⟨cur,c6.trans g1,g2,g3,g4⟩
    | map es=>obtain ⟨cJ,c,g1,g2,g3⟩:=ah;exact ⟨cJ,c,c6.trans g1,⟨g2.1.mono hle,g2.2.mono hle⟩,g3⟩
    | kN es it l c=>exact ah.pL hle c6 (hM it (ah.yG U bc))
    | tick m=>obtain ⟨dm,a2,a3,g1⟩:=ah;exact ⟨dm,a2,a3,c6.trans g1⟩
    | loop r env=>exact ⟨c6.trans ah.1,fun t v h=>(ah.2 t v h).mono hle⟩
def e4:af→Bool
 | .hl (.func _ _ _)=>true
 | .hl (.slice _ _ _)=>true
 | .any | .hl _ | .agg _ | .cg _=>false
 | _=>true
theorem Ep {w:World} {p:bO} {v:Value} {x:af} (aC:Rel w p v x) (h:e4 x=true):v.oneCell'=true:=by
 cases aC with
 | hl v=>cases v<;>first|rfl|(simp [e4] at h;done)
 | _=>first|rfl|(simp [e4] at h;done)
theorem pQ {w:World} {p:bO}:∀ {vs:List Value} {xs:List af},bD w p vs xs→xs.all e4=true→∀ v∈vs,v.oneCell'=true:=by
 intro vs
 induction vs with
 | nil=>intro xs _ _ v ar;cases ar
 | cons u vs aX=>
  intro xs h a8 v ar;cases h with
  | cons _ x _ xs ab aK=>
  simp only [List.all_cons,f6] at a8;rcases ad4.1 ar with rfl|ar
  ·exact Ep ab a8.1
  ·exact aX aK a8.2 v ar
theorem I5 (off:Nat):∀ (cs xs:List af),off+cs.length≤xs.length→eO off cs xs=xs.take off++cs++xs.drop (off+cs.length):=by
 intro cs
 induction cs generalizing off with
 | nil=>intro xs h;simp [eO]
 | cons c cs aX=>
  intro xs h;simp only [eO,i7] at h ⊢;rw [aX (off+1) _ cO];have U:(xs.set off c).take (off+1)=xs.take off++[c]:=by
   rw [List.take_succ_eq_append_getElem cO];simp [List.take_set_of_le]
  have ad:(xs.set off c).drop (off+1+cs.length)=xs.drop (off+1+cs.length):=by
   rw [List.drop_set_of_lt ag]
  rw [U,ad];simp [ak4,ao7 1]
theorem aW.Bz (aP:bM P Γ) {o:Oper} {t T:TypeId} {x y:Operand} {i:bL} {b off:Nat} {cs us:List af} {v:af} (ah:o.op = .store t x y) (aK:Γ.get? t=some i) (ab:aJ env x=some (.ptr b off))
  (ax:aJ env y=some v) (ar:cellsOf v=some us) (hu:ad0 us.length i.size=true) (Qi:us.all e4=true) (ao:s b=some (.box T cs)) (fl:al9 (off+us.length) cs.length=true) {X:af→ak→Prop} :
  aW P N o env s (fun _ ai=>ai=s.set b (.box T (eO off us cs))) X:=by
 refine aW.Eo (by simp [gm,ah]) fun ro B a w p aI=>?_
 have aC:=aI.aJ ab;generalize ei:a.eval x=dG at aC;cases aC;have fe:=aI.aJ ax;have mQ:=pM fe ar;obtain ⟨info,d,g1,g2,g3,g4,-⟩:=aP.parts aK;obtain ⟨vs,U,ad,al⟩:=aI.wf.obj _ _ ao;have b':(a.eval y).cells.size=info.size:=by rw [g4,← ab' hu,← mQ.length,ac6]
 have Qj:=al8 fl;have np:vs.size=cs.length:=by rw [← ad.length,ac6]
 have eZ:(a.eval y).cells.toList.length=us.length:=mQ.length;have hE:=run_storeCells_at P b off T (a.eval y).cells.toList 0 vs w U (by rw [eZ];omega) (pQ mQ Qi);simp only [am4] at hE;have eG:bD w p (vs.toList.take off++(a.eval y).cells.toList++vs.toList.drop (off+(a.eval y).cells.toList.length)) (eO off us cs):=by
  rw [I5 _ _ _ Qj,eZ];exact ((ad.take off).append mQ).append (ad.drop _)
 obtain ⟨cv,db,e8⟩:=u0 aI.wf ao (vs':=(vs.toList.take off++(a.eval y).cells.toList++vs.toList.drop (off+(a.eval y).cells.toList.length)).toArray) (fun u1 BA=>by
  rw [U] at BA;cases BA
  simp only [ak8,d9,ac9,ag1,eZ,ac6];omega) (by simpa using eG) _ C
 refine ⟨_,_,p,?_,cv,db,e8,rfl⟩;unfold execOp;rw [ah];simp only [ei];simp only [Instr.storeAt,Instr.sureAddr,storeVar,sizeOf,typeInfo,z2,ac4,g6,run_program,g1,b',ne_eq,not_true_eq_false,af5];rw [hE];rfl
theorem dq.freeze {B:fx} {ro:Option Nat} {a:Act} {w:World} {p:bO} (h:dq N B ro env s a w p) {t b:Nat} {T:TypeId} {cs:List af} (aK:env.get? t=some (.ptr b 0)) (ao:s b=some (.box T cs)) :
  ∃ bg,dq N B ro ((t,.bs cs 0)::env) (s.del b) a w bg∧c8 w p w bg∧Kept s (s.del b) w p w bg:=by
 obtain ⟨vs,U,ad,al⟩:=h.wf.obj _ _ ao;have az:b<w.heap.size:=(i8.1 U).1;have hle:c8 w p w (p.dR b True):=⟨rfl,rfl,rfl,i0 _,fun _ _ h => .inl h,fun _ _ _=>rfl,fun _ _ h=>h⟩
 have aD:Kept s (s.del b) w p w (p.dR b True):=⟨fun _ _ _=>rfl,fun aT an aA=>by
  by_cases e:aT=b
  ·subst e;exact ak.mR _ _
  ·rw [ak.l' _ e];exact aA,fun aT o an aA aE=>by
   rcases aE with aE|⟨rfl,_⟩
   ·exact aE
   ·rw [ao] at aA;cases aA⟩
 have b5:df w (p.dR b True) (s.del b):=by
  refine ⟨fun aT o an=>?_,fun aT o aE=>by rcases aE with aE|⟨rfl,_⟩;exact h.wf.lt _ _ aE;exact az⟩;by_cases e:aT=b
  ·subst e;rw [ak.mR] at an;cases an
  ·rw [ak.l' _ e] at an
   have ah:=h.wf.obj aT o an;have fc:∀ o,p.dR b True aT o↔p aT o:=fun o=>⟨fun aE=>by rcases aE with aE|⟨e',_⟩;exact aE;exact absurd e' e,.inl⟩
   cases o with
   | box t c=>obtain ⟨us,g1,g2,g3⟩:=ah;exact ⟨us,g1,g2.mono hle,fun o aE=>g3 o ((fc o).1 aE)⟩
   | row t sz n=>obtain ⟨cur,g1,g2,g3,g4⟩:=ah;exact ⟨cur,g1,g2,g3,fun o=>(fc o).trans (g4 o)⟩
   | map es=>obtain ⟨cJ,c,g1,g2,g3⟩:=ah;exact ⟨cJ,c,g1,⟨g2.1.mono hle,g2.2.mono hle⟩,g3⟩
   | kN es it l c=>exact ah.pL hle C C
   | tick m=>exact ah
   | loop r env=>exact ⟨ah.1,fun t v h=>(ah.2 t v h).mono hle⟩
 have aI:=h.step hle aD b5;refine ⟨_,⟨aI.size,fun bI v ar=>?_,aI.wf,aI.defs,aI.round,aI.base⟩,hle,aD⟩;simp only [Env.get?] at ar;split at ar
 ·rename_i he
  have:=ab' he;subst this;cases ar;have aC:=h.env t _ aK;generalize a.tmps.getD t undef=dG at aC;cases aC;refine .bs b 0 0 0 vs.toList cs C ?_ (ad.mono hle);intro i v aS;refine ⟨.inr ⟨rfl,trivial⟩,?_⟩;rw [ad8,jq U];simpa using aS
 ·exact aI.env bI v ar
theorem fp.freeze {ops:Array Oper} {Q:bX→Env→ak→Prop} {l:List Nat} (t b:Nat) {T:TypeId} {cs:List af} (aK:env.get? t=some (.ptr b 0)) (ao:s b=some (.box T cs))
  (h:fp P N ops l Q ((t,.bs cs 0)::env) (s.del b)):fp P N ops l Q env s:=by
 intro ro B a w p aI;obtain ⟨bg,hE,hle,aD⟩:=aI.freeze aK ao;exact fp.after hle aD h hE
theorem ae.freeze {Q:bX→Env→ak→Prop} {c:Code} (t b:Nat) {T:TypeId} {cs:List af} (aK:env.get? t=some (.ptr b 0)) (ao:s b=some (.box T cs))
  (h:ae P N c Q ((t,.bs cs 0)::env) (s.del b)):ae P N c Q env s:=by
 intro gV B a w p eU aI;obtain ⟨bg,hE,hle,aD⟩:=aI.freeze aK ao;exact lG (h gV B a w bg eU hE) fun _ _ _ q=>q.after hle aD
end
def jN:af→af→Option Bool
 | .str a,.str b=>some (a==b)
 | .int k a,.int k' b=>if k=k' then some (a==b) else none
 | .bool a,.bool b=>some (a==b)
 | _,_=>none
def jO:r5→af→Bool
 | .str,.str _=>true
 | .int _,.int _ _=>true
 | .bool,.bool _=>true
 | _,_=>false
def iJ:List (af×af)→af→Option (Option af)
  | [],_=>some none
  | (k',v)::r,k=>match jN k k' with
    | some true=>some (some v)
    | some false=>iJ r k
    | none=>none
def k9:List (af×af)→af→af→Option (List (af×af))
  | [],k,v=>some [(k,v)]
  | (k',fj)::r,k,v=>match jN k k' with
    | some true=>some ((k,v)::r)
    | some false=>match k9 r k v with
      | some r'=>some ((k',fj)::r')
      | none=>none
    | none=>none
theorem I6 (a b:ByteArray):(a==b)=(a.data.toList==b.data.toList):=by
 cases a with|mk x=>cases b with|mk y=>
 show (ByteArray.beq ⟨x⟩ ⟨y⟩)=_;unfold ByteArray.beq;simp
theorem BB {w:World} {p:bO} {d:TypeDesc} {hF yT:Value} {k k':af} {b:Bool} (U:Rel w p hF k) (ad:Rel w p yT k') (a1:jO (eh d) k=true) (h:jN k k'=some b) :
  Instr.sameNow d hF yT=some b:=by
 unfold jN at h;split at h
 ·cases U with|str a _ e=>cases ad with|str c3 _ e'=>
  cases d<;>simp [eh,jO] at a1
  cases h;simp [Instr.sameNow,I6,e,e']
 ·cases U;cases ad
  cases d<;>simp [eh,jO] at a1
  split at h
  ·cases h;rename_i aD;subst aD;simp [Instr.sameNow]
  ·cases h
 ·cases U;cases ad
  cases d<;>simp [eh,jO] at a1
  cases h;simp [Instr.sameNow]
 ·cases h
theorem Qk {w:World} {p:bO} {hF yT:Value} {k k':af} (U:Rel w p hF k) (ad:Rel w p yT k') (h:jN k k'=some true):Instr.sameBits 10000 yT hF=true:=by
 unfold jN at h;split at h
 ·cases U with|str a _ e=>cases ad with|str c3 _ e'=>
  have h:=beq_iff_eq.1 (am2.inj h);show (c3==a)=true;rw [I6,e,e',h];simp
 ·rename_i k a k' b
  cases U;cases ad;split at h
  ·rename_i aD
   subst aD;have h:=beq_iff_eq.1 (am2.inj h);show (k==k&&b==a)=true;rw [h];simp
  ·cases h
 ·rename_i a b
  cases U;cases ad;have h:=beq_iff_eq.1 (am2.inj h);show (b==a)=true;rw [h];simp
 ·cases h
theorem Ql {w:World} {p:bO} {d:TypeDesc} {hF:Value} {k:af} (aD:Rel w p hF k) (a1:jO (eh d) k=true):∀ (cJ:List MapEntry) (es:List (af×af)) (i:Nat) (r:Option af),
  k7 w p cJ es→iJ es k=some r →
  match r with
  | none=>Instr.findNow d hF cJ i=some none
  | some v=>∃ j val,Instr.findNow d hF cJ i=some (some (j,val))∧Rel w p val v:=by
 intro cJ
 induction cJ with
 | nil=>
  intro es i r aC h;cases es with
  | nil=>cases h;rfl
  | cons e es=>exact absurd aC.1.length bc
 | cons m cJ aX=>
  intro es i r aC h;cases es with
  | nil=>exact absurd aC.1.length bc
  | cons e es=>
   obtain ⟨k',fj⟩:=e;obtain ⟨w5,sb⟩:=aC;cases w5 with|cons _ _ _ _ eu sc=>cases sb with|cons _ _ _ _ oU pR=>
   simp only [iJ] at h;split at h
   ·rename_i he
    cases h;exact ⟨i,m.val,by simp only [Instr.findNow,BB aD eu a1 he],oU⟩
   ·rename_i he
    have:=aX es (i+1) r ⟨sc,pR⟩ h;have ao:=BB aD eu a1 he;cases r with
    | none=>simp only [Instr.findNow,ao];exact this
    | some v=>obtain ⟨j,val,U,ad⟩:=this;exact ⟨j,val,by simp only [Instr.findNow,ao];exact U,ad⟩
   ·cases h
theorem Qm {w:World} {p:bO} {d:TypeDesc} {hF vv:Value} {k v:af} (aD:Rel w p hF k) (ar:Rel w p vv v) (a1:jO (eh d) k=true):∀ (cJ:List MapEntry) (es dn:List (af×af)) (i:Nat),
  k7 w p cJ es→k9 es k v=some dn →
  (Instr.findNow d hF cJ i=some none∧∀ n,k7 w p (cJ++[{ key:=hF,val:=vv,born:=n }]) dn) ∨
  (∃ j val e,Instr.findNow d hF cJ i=some (some (i+j,val))∧cJ[j]? = some e∧Instr.sameBits 10000 e.key hF=true∧k7 w p (cJ.modify j fun e=>{ e with key:=hF,val:=vv }) dn):=by
 intro cJ
 induction cJ with
 | nil=>
  intro es dn i aC h;cases es with
  | nil=>cases h;exact .inl ⟨rfl,fun n=>⟨.cons _ _ _ _ aD .nil,.cons _ _ _ _ ar .nil⟩⟩
  | cons e es=>exact absurd aC.1.length bc
 | cons m cJ aX=>
  intro es dn i aC h;cases es with
  | nil=>exact absurd aC.1.length bc
  | cons e es=>
   obtain ⟨k',fj⟩:=e;obtain ⟨w5,sb⟩:=aC;cases w5 with|cons _ _ _ _ eu sc=>cases sb with|cons _ _ _ _ oU pR=>
   simp only [k9] at h;split at h
   ·rename_i he
    cases h;refine .inr ⟨0,m.val,m,by simp only [Instr.findNow,BB aD eu a1 he,am4],rfl,Qk aD eu he,?_⟩;exact ⟨.cons _ _ _ _ aD sc,.cons _ _ _ _ ar pR⟩
   ·rename_i he
    split at h
    ·rename_i r' iW
     cases h;have ao:=BB aD eu a1 he;rcases aX es r' (i+1) ⟨sc,pR⟩ iW with ⟨U,ad⟩|⟨j,val,e',U,ad,al,bd⟩
     ·exact .inl ⟨by simp only [Instr.findNow,ao];exact U,fun n=>⟨.cons _ _ _ _ eu (ad n).1,.cons _ _ _ _ oU (ad n).2⟩⟩
     ·refine .inr ⟨j+1,val,e',by simp only [Instr.findNow,ao];rw [U];congr 3;omega,by simpa using ad,al,?_⟩
      simp only [List.modify_succ_cons];exact ⟨.cons _ _ _ _ eu bd.1,.cons _ _ _ _ oU bd.2⟩
    ·cases h
   ·cases h
section
variable {P:Program} {Γ:cj} {N:Nat} {env:Env} {s:ak}
theorem run_checkKey {d:TypeDesc} {t:TypeId} {hF:Value} {k:af} {w:World} {p:bO} (hu:P.underlying t=some d) (aD:Rel w p hF k) (a1:jO (eh d) k=true) (e:Bool) :
  (Instr.checkKey e 10000 t hF).run P w = .ok () w:=by
 have:∀ n,(Instr.checkKey e (n+1) t hF).run P w = .ok () w:=by
  intro n;unfold Instr.checkKey;simp only [z2,run_underlying hu,g6];cases aD<;>simp [jO] at a1<;>cases d<;>simp [eh] at a1<;>rfl
 exact this 9999
theorem run_findKey {d:TypeDesc} {t:TypeId} {hF:Value} {es:List MapEntry} {r:Option (Nat×Value)} {w:World} (hu:P.underlying t=some d) (h:Instr.findNow d hF es 0=some r) :
  (Instr.findKey t hF es).run P w = .ok r w:=by
 unfold Instr.findKey;simp only [z2,run_underlying hu,g6,h,ac4]
def BC:Obj→Bool
 | .cells .. => false
 | _=>true
theorem w6 {w:World} {r:Nat} {o:Obj} (h:w.heap[r]? = some o) (aF:BC o=true):(getObj r).run P w = .ok o w:=by
 cases o<;>first|(simp [BC] at aF;done)|simp [getObj,au3,h]
def la (ok:Bool) (zero:af):Option af→af
 | some v=>if ok then .cg [v,.bool true] else v
 | none=>if ok then .cg [zero,.bool false] else zero
theorem aW.lookup (aP:bM P Γ) {o:Oper} {t dH eW:TypeId} {x y:Operand} {ok:Bool} {it gp aG:bL} {m:af} {es:List (af×af)} {k z:af} {r:Option af} (ah:o.op = .lookup t x y ok)
  (aK:Γ.get? t=some it) (br:it.bE = .map dH eW) (iX:Γ.get? dH=some gp) (bH:Γ.get? eW=some aG) (ab:aJ env x=some m) (ax:aJ env y=some k)
  (hm:(∃ b,m = .map b∧s b=some (.map es))∨(m = .r3∧es=[])) (a1:jO gp.bE k=true) (au:iJ es k=some r) (bP:ho aG.zero=some z) {X:af→ak→Prop} :
  aW P N o env s (fun x ai=>x=la ok z r∧ai=s) X:=by
 refine aW.jY (by simp [gm,ah]) fun ro B a w p aI=>?_
 obtain ⟨info,d,U,ad,al,-⟩:=aP.parts aK;obtain ⟨Qn,w7,lK,ie,sd,-⟩:=aP.parts iX;obtain ⟨jx,jZ,Er,yU,Qo,-,-,Es⟩:=aP.parts bH;have av:d = .map dH eW:=by rw [br] at al;cases d<;>simp [eh] at al;rw [al.1,al.2]
 subst av;have aC:=aI.aJ ab;have j0:=aI.aJ ax;generalize ei:a.eval x=dG at aC;generalize e9:a.eval y=fJ at j0;rw [← sd] at a1;have Et:(zeroValue eW).run P w = .ok aG.zero w:=by simp [zeroValue,typeInfo,Er,Es]
 have tail:∀ cJ:Array MapEntry,k7 w p cJ.toList es→∃ val,(do
   Instr.checkKey cJ.isEmpty 10000 dH fJ
   let (v,Qp) ← match ← Instr.findKey dH fJ cJ.toList with
    | some (_,v)=>pure (v,true)
    | none=>do pure (← zeroValue eW,false)
   pure (if ok then .tuple #[v,.bool Qp] else v):Sem Value).run P w = .ok val w∧Rel w p val (la ok z r):=by
  intro cJ Eu;have jP:=Ql j0 a1 cJ.toList es 0 r Eu au;simp only [z2,run_checkKey ie j0 a1,g6];cases r with
  | none=>
   simp only at jP;simp only [run_findKey ie jP,g6,z2,Et,ac4,la];cases ok
   ·exact ⟨_,rfl,pO bP⟩
   ·exact ⟨_,rfl,.cg _ _ (.cons _ _ _ _ (pO bP) (.cons _ _ _ _ (.bool _) .nil))⟩
  | some v=>
   obtain ⟨j,val,g1,g2⟩:=jP;simp only [run_findKey ie g1,g6,ac4,la];cases ok
   ·exact ⟨_,rfl,g2⟩
   ·exact ⟨_,rfl,.cg _ _ (.cons _ _ _ _ g2 (.cons _ _ _ _ (.bool _) .nil))⟩
 have Ev:∃ val,(Instr.lookup t dG fJ ok).run P w = .ok val w∧Rel w p val (la ok z r):=by
  unfold Instr.lookup;rcases hm with ⟨b,rfl,ao⟩|⟨rfl,rfl⟩
  ·cases aC
   obtain ⟨cJ,clock,g1,g2,-⟩:=aI.wf.obj _ _ ao;obtain ⟨val,cK,eG⟩:=tail cJ g2;refine ⟨val,?_,eG⟩;simp only [z2,run_underlying ad,g6,w6 g1 C,ac4] at cK ⊢;exact cK
  ·cases aC
   obtain ⟨val,cK,eG⟩:=tail #[] ⟨.nil,.nil⟩;refine ⟨val,?_,eG⟩;simp only [z2,run_underlying ad,g6,ac4] at cK ⊢;exact cK
 obtain ⟨val,cK,eG⟩:=Ev;refine ⟨val,w,s,p,_,?_,.refl w p,.refl s w p,aI.wf,⟨rfl,rfl⟩,eG⟩;unfold execOp;rw [ah];simp only [ei,e9];exact gC cK
theorem Ew {w:World} {p:bO} (b5:df w p s) {b:Nat} {es:List (af×af)} (ao:s b=some (.map es)) {mes':Array MapEntry} {clock':Nat} {dn:List (af×af)}
    (aC:k7 w p mes'.toList dn) (an:∀ e∈mes'.toList,e.born<clock') (e2:(mes'.toList.map (·.born)).Nodup)
    (w':World) (h2:w'={ w with heap:=w.heap.setIfInBounds b (.map mes' clock') }) :
    c8 w p w' p∧Kept s (s.set b (.map dn)) w p w' p∧df w' p (s.set b (.map dn)):=by
  subst h2;obtain ⟨cJ,clock,U,ad,al,bd⟩:=b5.obj _ _ ao;have az:b<w.heap.size:=(i8.1 U).1;have dF:(w.heap.setIfInBounds b (.map mes' clock'))[b]? = some (.map mes' clock'):=by simp [ae5,az]
  have hM:∀ k,k≠b→(w.heap.setIfInBounds b (.map mes' clock'))[k]? = w.heap[k]? := fun k aD=>by
    rw [ae5,f0 (fun e=>aD e.symm)]
  have hle:c8 w p { w with heap:=w.heap.setIfInBounds b (.map mes' clock') } p:=by
    refine ⟨rfl,rfl,rfl,by simp,fun _ _ h=>h,fun aT o aE=>?_,fun aT x ab=>?_⟩
    · by_cases e:aT=b
      · subst e;simp only [World.cell?,U,dF]
      · exact w0 (hM aT e)
    · by_cases e:aT=b
      · subst e;simp [World.kk,U] at ab
      · rw [wZ (hM aT e)];exact ab
  refine ⟨hle,⟨fun aT an aA=>hM aT (fun e=>by rw [e,ao] at aA;simp at aA),fun aT an aA=>by
    rw [ak.fk]
    · exact aA
    · intro e;rw [e,ao] at aA;simp at aA,fun _ _ _ _ h=>h⟩,?_,fun aT o aE=>by simpa using b5.lt aT o aE⟩
  intro aT o' nn;by_cases e:aT=b
  · subst e
    rw [ak.fT] at nn;cases nn;exact ⟨mes',clock',dF,⟨aC.1.mono hle,aC.2.mono hle⟩,an,e2⟩
  · rw [ak.fk _ _ e] at nn
    have ah:=b5.obj aT o' nn;have c6:=hM aT e;cases o' with
    | box t c=>obtain ⟨us,g1,g2,g3⟩:=ah;exact ⟨us,c6.trans g1,g2.mono hle,g3⟩
    | row t sz n=>obtain ⟨cur,g1,g2,g3,g4⟩:=ah;exact ⟨cur,c6.trans g1,g2,g3,g4⟩
    | map es=>obtain ⟨cJ,c,g1,g2,g3⟩:=ah;exact ⟨cJ,c,c6.trans g1,⟨g2.1.mono hle,g2.2.mono hle⟩,g3⟩
    | kN es it l c=>exact ah.pL hle c6 (hM it (ah.yG U bc))
    | tick m=>obtain ⟨dm,a2,a3,g1⟩:=ah;exact ⟨dm,a2,a3,c6.trans g1⟩
    | loop r env=>exact ⟨c6.trans ah.1,fun t v h=>(ah.2 t v h).mono hle⟩
theorem Qq {t dH eW:TypeId} {w7:TypeDesc} {b:Nat} {cJ:Array MapEntry} {clock:Nat} {hF vv:Value} {k:af} {w:World} {p:bO}
  (ad:P.underlying t=some (.map dH eW)) (ie:P.underlying dH=some w7) (j0:Rel w p hF k) (a1:jO (eh w7) k=true) (g1:w.heap[b]? = some (.map cJ clock)) :
  (∀ (h:Instr.findNow w7 hF cJ.toList 0=some none),(Instr.mapUpdate t (.map (some b)) hF vv).run P w = .ok () { w with heap:=w.heap.setIfInBounds b (.map (cJ.push { key:=hF,val:=vv,born:=clock }) (clock+1)) }) ∧
  (∀ j val e,Instr.findNow w7 hF cJ.toList 0=some (some (j,val))→cJ[j]? = some e→Instr.sameBits 10000 e.key hF=true →
   (Instr.mapUpdate t (.map (some b)) hF vv).run P w = .ok () { w with heap:=w.heap.setIfInBounds b (.map (cJ.modify j fun e=>{ e with key:=hF,val:=vv }) clock) }):=by
 constructor
 ·intro h
  unfold Instr.mapUpdate;simp only [z2,run_underlying ad,g6,w6 g1 C,run_checkKey ie j0 a1,run_findKey ie h];simp [setObj,au3,g1]
 ·intro j val e h he an
  unfold Instr.mapUpdate;simp only [z2,run_underlying ad,g6,w6 g1 C,run_checkKey ie j0 a1,run_findKey ie h];simp [Instr.keyThatStays,he,an,setObj,au3,g1]
theorem aW.mapUpdate (aP:bM P Γ) {o:Oper} {t dH eW:TypeId} {x y z:Operand} {it gp:bL} {b:Nat} {es dn:List (af×af)} {k v:af} (ah:o.op = .mapUpdate t x y z∨o.op = .insert t x y z)
    (aK:Γ.get? t=some it) (br:it.bE = .map dH eW) (iX:Γ.get? dH=some gp) (ab:aJ env x=some (.map b)) (ax:aJ env y=some k) (bP:aJ env z=some v)
    (ao:s b=some (.map es)) (a1:jO gp.bE k=true) (aE:k9 es k v=some dn) {X:af→ak→Prop} :
    aW P N o env s (fun _ ai=>ai=s.set b (.map dn)) X:=by
  refine aW.Eo (by rcases ah with ah|ah<;>simp [gm,ah]) fun ro B a w p aI=>?_
  obtain ⟨info,d,U,ad,al,-⟩:=aP.parts aK;obtain ⟨Qn,w7,lK,ie,sd,-⟩:=aP.parts iX;have av:d = .map dH eW:=by rw [br] at al;cases d<;>simp [eh] at al;rw [al.1,al.2]
  subst av;rw [← sd] at a1;have aC:=aI.aJ ab;have j0:=aI.aJ ax;have Ex:=aI.aJ bP;obtain ⟨cJ,clock,g1,g2,g3,g4⟩:=aI.wf.obj _ _ ao;generalize ei:a.eval x=dG at aC;cases aC;obtain ⟨fg,gf⟩:=Qq (vv:=a.eval z) ad ie j0 a1 g1;have cK:∀ w',(Instr.mapUpdate t (.map (some b)) (a.eval y) (a.eval z)).run P w = .ok () w'→(execOp a.eval o).run P w = .ok .skip w':=by
    intro w' hw;unfold execOp;rcases ah with ah|ah<;>rw [ah]<;>simp only [ei]<;>simp only [z2,hw,g6,ac4]
  rcases Qm j0 Ex a1 cJ.toList es dn 0 g2 aE with ⟨dV,dg⟩|⟨j,val,e,dV,dg,dB,ma⟩
  · obtain ⟨cv,db,e8⟩:=Ew aI.wf ao (mes':=cJ.push { key:=a.eval y,val:=a.eval z,born:=clock }) (clock':=clock+1) (by simpa using dg clock)
      (by intro e he;simp only [aq1,ac7,t7] at he;rcases he with he|rfl;have:=g3 e he;omega;simp)
      (by
        simp only [aq1,List.map_append,ac0,ae3]
        rw [List.nodup_append]
        refine ⟨g4,by simp,?_⟩
        intro x ab y ax e
        simp only [t7] at ax
        obtain ⟨m,hm,rfl⟩:=ad2.1 ab
        have:=g3 m hm
        omega) _ C
    exact ⟨_,_,p,cK _ (fg dV),cv,db,e8,rfl⟩
  · rw [ad8] at dV
    have ts:((cJ.modify j fun e=>{ e with key:=a.eval y,val:=a.eval z }).toList.map (·.born))=cJ.toList.map (·.born):=by
      rw [Array.toList_modify];apply List.ext_getElem?;intro n;simp only [ad7,List.getElem?_modify];split
      · cases cJ.toList[n]? <;> rfl
      · cases cJ.toList[n]? <;> rfl
    obtain ⟨cv,db,e8⟩:=Ew aI.wf ao (mes':=cJ.modify j fun e=>{ e with key:=a.eval y,val:=a.eval z }) (clock':=clock) (by simpa using ma)
      (by
        intro e he
        have:e.born∈((cJ.modify j fun e=>{ e with key:=a.eval y,val:=a.eval z }).toList.map (·.born)):=ad2.2 ⟨e,he,rfl⟩
        rw [ts] at this
        obtain ⟨e',uN,an⟩:=ad2.1 this
        rw [← an];exact g3 e' uN)
      (by rw [ts];exact g4) _ C
    exact ⟨_,_,p,cK _ (gf j val e dV (by simpa using dg) dB),cv,db,e8,rfl⟩
theorem aW.makeMap {o:Oper} {t:TypeId} (ah:o.op = .makeMap t none) {X:af→ak→Prop}:aW P N o env s (fun x ai=>∃ b,s b=none∧x = .map b∧ai=s.set b (.map [])) X:=by
 refine aW.jY (by simp [gm,ah]) fun ro B a w p aI=>?_
 obtain ⟨aA,hle,aD,b5⟩:=qR aI.wf (.map #[] 0) (.map []) (fun w' h2 aC gW=>⟨#[],0,h2,⟨.nil,.nil⟩,by simp,by simp⟩);refine ⟨.map (some w.heap.size),_,_,p,_,?_,hle,aD,b5,⟨w.heap.size,aA,rfl,rfl⟩,.map _⟩;unfold execOp;rw [ah];exact gC C
end
theorem u2 {vs:List Value} {sz:Nat} (h:∀ v∈vs,v.cells.size=sz):(flat vs).length=vs.length*sz:=by
 induction vs with
 | nil=>simp [flat]
 | cons v vs aX=>
  have eT:=aX (fun u hu=>h u (g7 _ hu));simp only [flat,ah4,d9,ac6,i7] at eT ⊢;rw [h v (i5 ..)];have Qr:(aA3 (fun v=>v.cells.toList) vs).length=vs.length*sz:=eT;rw [Qr,ah8];omega
theorem Ey (vs us:List Value):flat (vs++us)=flat vs++flat us:=by simp [flat,List.flatMap_append]
theorem Qs {w:World} {p:bO} {s:ak} (b5:df w p s) {vs:List Value} {xs:List af} {sz cap:Nat} {e:TypeId} {cur:Array Value} (aC:bD w p vs xs)
    (ao:∀ v∈vs,v.cells.size=sz) (n8:cur.size=cap*sz) (u3:cur.toList.take (xs.length*sz)=flat vs) (j1:xs.length≤cap) (hm:xs.length≤9223372036854775807) :
    ∃ bg,s w.heap.size=none∧c8 w p (w.drew.alloc (.cells cur e)) bg∧Kept s (s.set w.heap.size (.row e sz xs.length)) w p (w.drew.alloc (.cells cur e)) bg ∧
      df (w.drew.alloc (.cells cur e)) bg (s.set w.heap.size (.row e sz xs.length))∧Rel (w.drew.alloc (.cells cur e)) bg (.slice (some ⟨w.heap.size,0,none⟩) xs.length cap) (.ay sz xs (.own w.heap.size)):=by
  have aA:s w.heap.size=none:=by
    cases h:s w.heap.size with
    | none=>rfl
    | some o'=>exact absurd (b5.obj _ _ h).lt ag
  let bg:bO:=fun b o=>p b o∨(b=w.heap.size∧o<xs.length*sz)
  have n9:(w.drew.alloc (.cells cur e)).heap[w.heap.size]? = some (.cells cur e):=tj w.drew _;have hold:∀ b,b<w.heap.size→(w.drew.alloc (.cells cur e)).heap[b]? = w.heap[b]? := fun b an=>lJ w.drew _ b an
  have hle:c8 w p (w.drew.alloc (.cells cur e)) bg:=c8.of_heap C C C bc (fun _ _ h => .inl h) b5.lt hold;have hlen:=u2 ao;have hmul:xs.length*sz≤cap*sz:=ak2 _ j1;refine ⟨bg,aA,hle,⟨fun b an _=>hold b an,fun b an ao=>by rw [ak.fk _ _ ag];exact ao,fun b o an _ aE=>by rcases aE with aE|⟨rfl,_⟩;exact aE;omega⟩,?_,?_⟩
  · have au:df (w.drew.alloc (.cells cur e)) bg s:=b5.grow hle hold (fun b o an aE=>by rcases aE with aE|⟨rfl,_⟩;exact aE;omega) (fun b o aE=>by
      rcases aE with aE|⟨rfl,_⟩
      · have:=b5.lt b o aE;simp;omega
      · simp)
    refine ⟨fun b o an=>?_,au.lt⟩;by_cases e':b=w.heap.size
    · subst e'
      rw [ak.fT] at an;cases an;refine ⟨cur,n9,by omega,⟨cap,n8⟩,fun o=>⟨fun aE=>?_,fun ah => .inr ⟨rfl,ah⟩⟩⟩;rcases aE with aE|⟨_,ah⟩
      · exact absurd (b5.lt _ _ aE) ag
      · exact ah
    · rw [ak.fk _ _ e'] at an;exact au.obj b o an
  · refine .ay _ 0 _ _ _ vs _ _ bc rfl ?_ (aC.mono hle) ao hm j1 (fun h=>by cases h) (fun b an=>?_)
    · intro i v ar
      have aS:i<xs.length*sz:=by
        have:=(ac1.1 ar).1;rw [hlen,aC.length] at this;exact this
      refine ⟨.inr ⟨rfl,by omega⟩,?_⟩;rw [ad8,jq n9];rw [← u3,af',f9 aS] at ar;simpa using ar
    · cases an
      exact ⟨rfl,rfl,e,by simp only [World.kk,n9,n8]⟩
theorem Qt {w:World} {p:bO} {s:ak} (b5:df w p s) {b:Nat} {e:TypeId} {sz n cap:Nat} (u4:s b=some (.row e sz n)) {cur:Array Value} (jn:w.heap[b]? = some (.cells cur e (0,0)))
  (n8:cur.size=cap*sz) {vs us:List Value} {xs ys:List af} (aA:n=xs.length) (aC:bD w p vs xs) (hu:bD w p us ys) (ao:∀ v∈vs,v.cells.size=sz) (kp:∀ v∈us,v.cells.size=sz)
  (u3:cur.toList.take (n*sz)=flat vs) (j1:n+us.length≤cap) (hm:n+us.length≤9223372036854775807) :
  ∃ bg,c8 w p (w.setRow b (cur.toList.take (n*sz)++flat us++cur.toList.drop (n*sz+(flat us).length)).toArray) bg ∧
   Kept s ((s.del b).set b (.row e sz (n+us.length))) w p (w.setRow b (cur.toList.take (n*sz)++flat us++cur.toList.drop (n*sz+(flat us).length)).toArray) bg ∧
   df (w.setRow b (cur.toList.take (n*sz)++flat us++cur.toList.drop (n*sz+(flat us).length)).toArray) bg ((s.del b).set b (.row e sz (n+us.length))) ∧
   Rel (w.setRow b (cur.toList.take (n*sz)++flat us++cur.toList.drop (n*sz+(flat us).length)).toArray) bg (.slice (some ⟨b,0,none⟩) (n+us.length) cap) (.ay sz (xs++ys) (.own b)):=by
 obtain ⟨aaX,U,ad,al,bd⟩:=b5.obj _ _ u4;rw [jn] at U;cases U;have j2:=u2 kp;have fq:=u2 ao;have hmul:n*sz+us.length*sz≤cap*sz:=by rw [← ah8];exact ak2 _ j1
 generalize yV:(cur.toList.take (n*sz)++flat us++cur.toList.drop (n*sz+(flat us).length)).toArray=new;have oV:new.toList=cur.toList.take (n*sz)++flat us++cur.toList.drop (n*sz+(flat us).length):=by rw [← yV]
 have cu:cur.toList.length=cap*sz:=by rw [ac6,n8]
 have BD:new.size=cur.size:=by rw [← ac6,oV];simp only [d9,ac9,ag1,j2,cu,n8];omega
 have az:b<w.heap.size:=(i8.1 jn).1;have dF:=setRow_heap w b cur new e (0,0) jn;have hM:∀ k,k≠b→(w.setRow b new).heap[k]? = w.heap[k]? := fun k aD=>setRow_other w b k new aD
 have oW:∀ o,o<n*sz→new[o]? = cur[o]? := fun o ah=>by
  have:new.toList[o]? = cur.toList[o]?:=by
   rw [oV,ae6,ad3 wU,af',f9 ah]
  simpa using this
 let bg:bO:=fun aT o=>p aT o∨(aT=b∧o<(n+us.length)*sz)
 have hle:c8 w p (w.setRow b new) bg:=by
  refine ⟨rfl,rfl,rfl,by simp,fun _ _ h => .inl h,fun aT o aE=>?_,fun aT x ab=>?_⟩
  ·by_cases e':aT=b
   ·subst e'
    rw [jq dF,jq jn];exact oW o ((bd o).1 aE)
   ·exact w0 (hM aT e')
  ·by_cases e':aT=b
   ·subst e'
    simp only [World.kk,jn,dF] at ab ⊢;rw [BD];exact ab
   ·rw [wZ (hM aT e')];exact ab
 refine ⟨bg,hle,⟨fun aT an aA=>hM aT (fun e'=>by rw [e',u4] at aA;simp at aA),fun aT an aA=>?_,fun aT o an aA aE=>?_⟩,⟨fun aT o' nn=>?_,fun aT o aE=>?_⟩,?_⟩
 ·have cp:aT≠b:=fun e'=>by rw [e',u4] at aA;simp at aA
  rw [ak.fk _ _ cp,ak.l' _ cp];exact aA
 ·rcases aE with aE|⟨e',_⟩
  ·exact aE
  ·rw [e',u4] at aA;simp at aA
 ·by_cases e':aT=b
  ·subst e'
   rw [ak.fT] at nn;cases nn;refine ⟨new,dF,by rw [BD,n8,ah8];omega,⟨cap,by rw [BD,n8]⟩,fun o=>⟨fun aE=>?_,fun ah => .inr ⟨rfl,ah⟩⟩⟩;rcases aE with aE|⟨_,ah⟩
   ·have:=(bd o).1 aE;rw [ah8];omega
   ·exact ah
  ·rw [ak.fk _ _ e',ak.l' _ e'] at nn
   have ah:=b5.obj aT o' nn;have c6:=hM aT e';have I7:∀ o,bg aT o↔p aT o:=fun o=>⟨fun aE=>by rcases aE with aE|⟨Qu,_⟩;exact aE;exact absurd Qu e',.inl⟩
   cases o' with
   | box t c=>obtain ⟨us,g1,g2,g3⟩:=ah;exact ⟨us,c6.trans g1,g2.mono hle,fun o aE=>g3 o ((I7 o).1 aE)⟩
   | row t sz n=>obtain ⟨cur,g1,g2,g3,g4⟩:=ah;exact ⟨cur,c6.trans g1,g2,g3,fun o=>(I7 o).trans (g4 o)⟩
   | map es=>obtain ⟨cJ,c,g1,g2,g3⟩:=ah;exact ⟨cJ,c,c6.trans g1,⟨g2.1.mono hle,g2.2.mono hle⟩,g3⟩
   | kN es it l c=>exact ah.pL hle c6 (hM it (ah.yG jn bc))
   | tick m=>obtain ⟨dm,a2,a3,g1⟩:=ah;exact ⟨dm,a2,a3,c6.trans g1⟩
   | loop r env=>exact ⟨c6.trans ah.1,fun t v h=>(ah.2 t v h).mono hle⟩
 ·rcases aE with aE|⟨rfl,_⟩
  ·simpa using b5.lt aT o aE
  ·simpa using az
 ·have hN:(xs++ys).length=n+us.length:=by rw [d9,aA,hu.length]
  refine .ay _ 0 _ _ _ (vs++us) _ _ bc hN.symm ?_ ((aC.append hu).mono hle) (fun v ar=>?_) hm j1 (fun h=>by cases h) (fun u5 qQ=>?_)
  ·intro i v ar
   have jX:flat (vs++us)=new.toList.take ((n+us.length)*sz):=by
    rw [Ey,oV,← u3,ah8,← j2];have:n*sz+(flat us).length=(cur.toList.take (n*sz)++flat us).length:=by rw [d9,ac9,cu];omega
    rw [this,av6]
   have aS:i<(n+us.length)*sz:=by
    have:=(ac1.1 ar).1;rw [jX,ac9] at this;omega
   refine ⟨.inr ⟨rfl,by omega⟩,?_⟩;rw [ad8,jq dF];rw [jX,af',f9 aS] at ar;simpa using ar
  ·rcases ac7.1 ar with ar|ar
   ·exact ao v ar
   ·exact kp v ar
  ·cases qQ
   exact ⟨rfl,rfl,e,by simp only [World.kk,dF,BD,n8]⟩
section
variable {P:Program} {Γ:cj} {N:Nat} {env:Env} {s:ak}
theorem BE {t bI ty e:TypeId} {cX:TypeDesc} {i:TypeInfo} (w:World) (aK:P.underlying t=some (.slice e)) (c4:P.underlying bI=some cX) (cc:∀ k,cX ≠ .int k) (aS:P.info? e=some i)
  (g sLen sCap:Nat) (cur:Array Value) (au:w.heap[g]? = some (.cells cur e (0,0))) {xv:Value} {m:Nat} {news:List Value}
  (aB:(Builtin.lenOf xv).run P w = .ok m w) (a1:(Builtin.firstCells i.size m xv).run P w = .ok news.toArray w) (U:∀ u∈news,u.oneCell'=true)
  (Qv:sLen+m≤sCap) (fl:sLen*i.size+news.length≤cur.size) :
  (Builtin.append_ #[t,bI] ty #[.slice (some ⟨g,0,none⟩) sLen sCap,xv]).run P w =
   .ok (.slice (some ⟨g,0,none⟩) (sLen+m) sCap) (w.setRow g (cur.toList.take (sLen*i.size)++news++cur.toList.drop (sLen*i.size+news.length)).toArray):=by
 have aI:=run_storeCells_at P g (sLen*i.size) e news 0 cur w au (by simpa using fl) U;simp only [am4] at aI;have bP:(match cX with | .int _=>true|_=>false)=false:=by cases cX<;>first|rfl|exact absurd C (cc _)
 simp [Builtin.append_,run_underlying aK,run_underlying c4,sizeOf,typeInfo,aS,bP,aB,Qv,a1,Addr.add_lit,aI]
theorem yW {t bI ty e:TypeId} {cX:TypeDesc} {i:TypeInfo} {z:Value} (w:World) (aK:P.underlying t=some (.slice e)) (c4:P.underlying bI=some cX) (cc:∀ k,cX ≠ .int k) (aS:P.info? e=some i) (bP:i.zero=some z)
  {base:Option Addr} {sLen sCap:Nat} {xv:Value} {m:Nat} {olds news:List Value}
  (aB:(Builtin.lenOf xv).run P w = .ok m w) (se:(Builtin.firstCells i.size sLen (.slice base sLen sCap)).run P w.drew = .ok olds.toArray w.drew) (a1:(Builtin.firstCells i.size m xv).run P w.drew = .ok news.toArray w.drew)
  (au:sCap<sLen+m) (en:((sLen+m:Nat):Int)≤9223372036854775807) (fl:Builtin.nextslicecap (sLen+m) sCap*i.bytes≤281474976710656) :
  (Builtin.append_ #[t,bI] ty #[.slice base sLen sCap,xv]).run P w =
   .ok (.slice (some ⟨w.heap.size,0,none⟩) (sLen+m) (grownCap w (sLen+m) sCap e))
    (w.drew.alloc (.cells (olds++news++(Builtin.zeroCells z.cells (grownCap w (sLen+m) sCap e-(sLen+m))).toList).toArray e)):=by
 have aA:¬ (sLen+m≤sCap):=by omega
 have Qw:¬ (9223372036854775807<((sLen:Int)+(m:Int))):=by omega
 have Qx:¬ (281474976710656<Builtin.nextslicecap (sLen+m) sCap*i.bytes):=by omega
 have sf:(match cX with | .int _=>true|_=>false)=false:=by cases cX<;>first|rfl|exact absurd C (cc _)
 simp [Builtin.append_,run_underlying aK,run_underlying c4,sizeOf,typeInfo,zeroValue,aS,bP,sf,aB,aA,Qw,Qx,Question.forced,a1,se,newRow,grownCap];congr 2;apply an0;simp [ae6]
def iK (sz:Nat) (x:af):Bool:=match cellsOf x with
 | some cs=>ad0 cs.length sz&&cs.all e4
 | none=>false
theorem Qy {w:World} {p:bO} {sz:Nat}:∀ {vs:List Value} {xs:List af},bD w p vs xs→(∀ x∈xs,iK sz x=true)→∀ u∈flat vs,u.oneCell'=true:=by
 intro vs
 induction vs with
 | nil=>intro xs _ _ u hu;simp [flat] at hu
 | cons v vs aX=>
  intro xs h ab u hu;cases h with
  | cons _ x _ xs aC aK=>
  simp only [flat,ah4,ac7] at hu;rcases hu with hu|hu
  ·have:=ab x (i5 ..)
   unfold iK at this;split at this
   ·rename_i cs hp
    simp only [f6] at this;exact pQ (pM aC hp) this.2 u hu
   ·cases this
  ·exact aX aK (fun y ax=>ab y (g7 _ ax)) u hu
theorem pS {w:World} {p:bO} {v:Value} {sz sz':Nat} {xs:List af} {own:bN} (h:Rel w p v (.ay sz xs own)) (b':xs=[]∨sz=sz') :
  ∃ vs,bD w p vs xs∧(∀ u∈vs,u.cells.size=sz')∧(∀ P,(Builtin.lenOf v).run P w = .ok xs.length w) ∧
   (∀ P (w':World),(∀ b o,p b o→w'.cell? ⟨b,o,none⟩=w.cell? ⟨b,o,none⟩)→(Builtin.firstCells sz' xs.length v).run P w' = .ok (flat vs).toArray w') ∧
   ∃ base cap,v = .slice base xs.length cap:=by
 cases h with
 | hL _ _ _=>exact ⟨[],.nil,by simp,fun P=>rfl,fun P w' _=>rfl,_,_,rfl⟩
 | ib a _ _ _=>exact ⟨[],.nil,by simp,fun P=>rfl,fun P w' _=>run_firstCells_some w' sz' 0 a _ _ [] bc bc,_,_,rfl⟩
 | ay g off n cap _ vs _ _ aA aB aF aC ao hm aD cu ah=>
  have u6:∀ u∈vs,u.cells.size=sz':=by
   rcases b' with rfl|rfl
   ·have:vs=[]:=ag3 (by rw [aC.length];rfl)
    subst this;simp
   ·exact ao
  subst aB;refine ⟨vs,aC,u6,fun P=>rfl,fun P w' h2=>?_,_,_,rfl⟩;refine run_firstCells_some w' sz' xs.length ⟨g,off,none⟩ _ _ (flat vs) (by rw [u2 u6,aC.length]) ?_;intro j u hu;obtain ⟨U,ad⟩:=aF j u hu;rw [kP,h2 _ _ U];exact ad
theorem aW.append (aP:bM P Γ) {o:Oper} {t bI e:TypeId} {x y:Operand} {it cz aG:bL} {ed bW:Nat} {xs ys:List af} {qS dx:bN}
    (ah:o.op = .call { callee := .builtin .append,args := #[x,y],argTypes := #[t,bI] }) (aK:Γ.get? t=some it) (br:it.bE = .ay e) (c4:Γ.get? bI=some cz) (dC:∀ k,cz.bE ≠ .int k)
    (bH:Γ.get? e=some aG) (ab:aJ env x=some (.ay ed xs qS)) (ax:aJ env y=some (.ay bW ys dx)) (hO:xs=[]∨ed=aG.size) (c':ys=[]∨bW=aG.size)
    (d':ad0 aG.zero.cells.size aG.size=true) (dS:∀ y∈ys,iK aG.size y=true) (an:(xs.length+ys.length)*aG.bytes≤140737488355328) (en:xs.length+ys.length≤9223372036854775807)
    (yX:(qS = .nil∨qS = .clip)∨∃ b,qS = .own b∧ed=aG.size∧s b=some (.row e aG.size xs.length)) {X:af→ak→Prop} :
    aW P N o env s (fun r ai=>(ys=[]∧(qS = .nil∨qS = .clip)∧r = .ay aG.size xs qS∧ai=s) ∨
      (∃ s₁,(s₁=s∨∃ b,qS = .own b∧s₁=s.del b)∧∃ b,s₁ b=none∧r = .ay aG.size (xs++ys) (.own b)∧ai=s₁.set b (.row e aG.size (xs.length+ys.length)))) X:=by
  refine aW.jY (by simp [gm,ah]) fun ro B a w p aI=>?_
  obtain ⟨info,d,U,ad,al,-⟩:=aP.parts aK;obtain ⟨l8,cX,g1,g2,g3,-⟩:=aP.parts c4;obtain ⟨jx,jZ,cv,db,e8,ew,jy,iY⟩:=aP.parts bH;have av:d = .slice e:=by rw [br] at al;cases d<;>simp [eh] at al;rw [al]
  subst av;have cc:∀ k,cX ≠ .int k:=fun k e'=>by subst e';exact dC k g3.symm
  have fN:=aI.aJ ab;have fe:=aI.aJ ax;have eC:∀ val w',(Builtin.append_ #[t,bI] o.type #[a.eval x,a.eval y]).run P w = .ok val w'→(execOp a.eval o).run P w = .ok (.value val) w':=by
    intro val w' h;unfold execOp;rw [ah];simp only [resolve,invoke,builtin,z2,ac4,g6,ao8,ac0,ae3,h]
  generalize ei:a.eval x=dG at fN eC;generalize e9:a.eval y=fJ at fe eC;obtain ⟨us,h3,oX,jz,jQ,sg,sh,si⟩:=pS fe c';obtain ⟨vs,sj,oY,aaY,I8,yY,oZ,sk⟩:=pS fN hO;have ih:=Qy h3 dS;have n6:=ab' d';have Ez:=u2 oX;have I9:=u2 oY;have mc:=h3.length;have qT:=sj.length;have I':∀ s₁:ak,(s₁=s∨∃ b,qS = .own b∧s₁=s.del b)→oZ<xs.length+ys.length →
      ∃ val w' ai bg n5,(Builtin.append_ #[t,bI] o.type #[dG,fJ]).run P w = .ok val w'∧c8 w p w' bg∧Kept s ai w p w' bg∧df w' bg ai ∧
        (∃ b,s₁ b=none∧n5 = .ay aG.size (xs++ys) (.own b)∧ai=s₁.set b (.row e aG.size (xs.length+ys.length)))∧Rel w' bg val n5:=by
    intro s₁ yZ az;have hC:ak.Sub s₁ s:=by
      rcases yZ with rfl|⟨b,-,rfl⟩
      · exact ak.n7 _
      · intro aT;by_cases e':aT=b
        · subst e';exact .inr (ak.mR _ _)
        · exact .inl (ak.l' _ e')
    have fl:=growslice_fits (need:=xs.length+ys.length) (old:=oZ) (bytes:=aG.bytes) az an;have cK:=yW (ty:=o.type) w ad g2 cc cv iY (base:=yY) (sLen:=xs.length) (sCap:=oZ) (m:=ys.length) (olds:=flat vs) (news:=flat us) (jz P)
      (by rw [← sk,ew];exact I8 P w.drew (fun _ _ _=>rfl)) (by rw [ew];exact jQ P w.drew (fun _ _ _=>rfl)) az ag (by rw [jy];exact fl)
    rw [← sk] at cK;have mS:=al5 (show xs.length+ys.length≤xs.length+ys.length from i0 _) (show xs.length+ys.length≤grownCap w (xs.length+ys.length) oZ e from by simp [grownCap,Question.cut]);have mT:(Builtin.zeroCells aG.zero.cells (grownCap w (xs.length+ys.length) oZ e-(xs.length+ys.length))).toList.length=(grownCap w (xs.length+ys.length) oZ e-(xs.length+ys.length))*aG.zero.cells.size:=by
      rw [ac6];simp [Builtin.zeroCells]
    rw [n6] at mT;have BF:(xs++ys).length=xs.length+ys.length:=d9;obtain ⟨bg,dV,dg,dB,ma,sl⟩:=Qs (s:=s₁) (aI.wf.sub hC) (vs:=vs++us) (xs:=xs++ys) (sz:=aG.size) (cap:=grownCap w (xs.length+ys.length) oZ e) (e:=e)
      (cur:=(flat vs++flat us++(Builtin.zeroCells aG.zero.cells (grownCap w (xs.length+ys.length) oZ e-(xs.length+ys.length))).toList).toArray) (sj.append h3)
      (fun v ar=>by rcases ac7.1 ar with ar|ar;exact oY v ar;exact oX v ar)
      (by
        simp only [ak8,d9,I9,Ez,mT,qT,mc,← ah8]
        congr 1;omega)
      (by
        have:(xs++ys).length*aG.size=(flat vs++flat us).length:=by rw [BF,d9,I9,Ez,qT,mc,ah8]
        rw [this,Ey];simp only [av6])
      (by rw [BF];exact mS) (by rw [BF];exact en)
    rw [BF] at dB ma sl;exact ⟨_,_,_,bg,_,cK,dg,dB.wY hC,ma,⟨w.heap.size,dV,rfl,rfl⟩,sl⟩
  rcases yX with yX|⟨b,rfl,Qz,u4⟩
  · by_cases az:oZ<xs.length+ys.length
    · obtain ⟨val,w',ai,bg,n5,fg,gf,hg,iL,lM,lN⟩:=I' s (.inl rfl) az
      exact ⟨val,w',ai,bg,n5,eC _ _ fg,gf,hg,iL,.inr ⟨s,.inl C,lM⟩,lN⟩
    ·
      have j1:oZ=xs.length:=by
        cases fN with
        | hL=>simp at sk;omega
        | ib=>simp at sk;omega
        | ay g off n cap _ vs' _ _ aA aB aF aC ao hm aD cu ah=>
          simp only [Value.slice.injEq] at sk;rcases yX with rfl|rfl
          · exact absurd C aA
          · rw [← sk.2.2,cu C,aB]
      have w3:ys=[]:=ag3 ag;subst w3;have BA:us=[]:=ag3 (by simpa using mc);subst BA;refine ⟨dG,w,s,p,.ay aG.size xs qS,eC _ _ ?_,.refl w p,.refl s w p,aI.wf,.inl ⟨rfl,yX,rfl,rfl⟩,?_⟩
      · have bP:(match cX with | .int _=>true|_=>false)=false:=by cases cX<;>first|rfl|exact absurd C (cc _)
        have hle:xs.length≤oZ:=by omega
        have o0:=jQ P w (fun _ _ _=>rfl);simp only [List.length_nil] at o0 jz;have me:=jz P;rw [sk];cases yY with
        | none=>simp [Builtin.append_,run_underlying ad,run_underlying g2,sizeOf,typeInfo,cv,bP,me,ew,o0,hle,flat]
        | some aci=>simp [Builtin.append_,run_underlying ad,run_underlying g2,sizeOf,typeInfo,cv,bP,me,ew,o0,hle,flat,storeCells]
      · rcases hO with rfl|rfl
        · cases fN with
          | hL _ _ h=>exact .hL _ _ h
          | ib a _ _ h=>exact .ib a _ _ h
          | ay g off n cap _ vs' _ _ aA aB aF aC ao hm aD cu ah=>
            have:vs'=[]:=ag3 (by rw [aC.length];rfl);subst this;exact .ay g off n cap _ [] _ _ aA aB aF aC bc hm aD cu (fun b an=>by rcases yX with rfl|rfl<;>cases an)
        · exact fN
  · by_cases az:oZ<xs.length+ys.length
    · obtain ⟨val,w',ai,bg,n5,fg,gf,hg,iL,lM,lN⟩:=I' (s.del b) (.inr ⟨b,rfl,rfl⟩) az
      exact ⟨val,w',ai,bg,n5,eC _ _ fg,gf,hg,iL,.inr ⟨_,.inr ⟨b,rfl,rfl⟩,lM⟩,lN⟩
    · cases fN with
      | hL _ _ h=>exact absurd C (h b)
      | ib _ _ _ h=>rcases h with h|h<;>cases h
      | ay g off n cap _ vs' _ _ aA aB aF aC ao hm aD cu ah=>
        obtain ⟨rfl,rfl,e',Ja⟩:=ah b rfl;obtain ⟨cur,cP,c9,⟨b8,eP⟩,o1⟩:=aI.wf.obj _ _ u4;simp only [Value.slice.injEq] at sk;obtain ⟨rfl,-,rfl⟩:=sk;have n8:cur.size=cap*ed:=by
          simp only [World.kk,cP] at Ja;simpa using ac5 Prod.snd (am2.inj Ja)
        have EA:cur.size=cap*aG.size:=by rw [← Qz];exact n8
        have u3:cur.toList.take (xs.length*aG.size)=flat vs:=by
          have b7:=I8 P w (fun _ _ _=>rfl);have bR:=run_firstCells_some (P:=P) w aG.size xs.length ⟨b,0,none⟩ n cap (cur.toList.take (xs.length*aG.size))
            (by have cu:cur.toList.length=cap*aG.size:=by rw [ac6,EA]
                rw [ac9,cu];have:=ak2 aG.size (show xs.length≤cap by omega);omega)
            (fun j u hu=>by
              rw [kP,ad8,jq cP]
              rw [af'] at hu
              split at hu
              · simpa using hu
              · cases hu)
          rw [bR] at b7;have:=Result.ok.inj b7;simpa using this.1
        have cK:=BE (ty:=o.type) w ad g2 cc cv b xs.length cap cur cP (jz P) (by rw [ew];exact jQ P w (fun _ _ _=>rfl)) ih ag (by rw [ew,Ez,EA,mc,← ah8];exact ak2 _ ag);rw [ew] at cK;obtain ⟨bg,fg,gf,hg,iL⟩:=Qt aI.wf u4 cP EA rfl sj h3 oY oX u3 (by rw [mc];omega) (by rw [mc];exact en);rw [mc] at gf hg iL;subst aB;exact ⟨_,_,_,bg,_,eC _ _ cK,fg,gf,hg,.inr ⟨_,.inr ⟨_,rfl,rfl⟩,_,ak.mR _ _,rfl,rfl⟩,iL⟩
end
inductive eo where
 | ret (v:af)
 | panic (v:af)
def QA (w:World) (p:bO):Ending→eo→Prop
 | .returned v,.ret x=>Rel w p v x
 | .panicked dr,.panic x=>∃ v,wW v dr∧Rel w p v x
 | _,_=>False
def u7 (s:ak) (w:World) (p:bO) (R:eo→ak→Prop) (e:Ending) (w':World):Prop:=
 ∃ o ai bg,QA w' bg e o∧R o ai∧c8 w p w' bg∧Kept s ai w p w' bg∧df w' bg ai
def hG (P:Program) (fv:af) (args:List af) (s:ak) (R:eo→ak→Prop):Prop:=
 ∀ w p v vs,df w p s→Rel w p v fv→bD w p vs args→oQ P ((do let d ← Deferred.ofValue v vs.toArray;invoke d.target d.args:Sem Next).run P w) (u7 s w p R)
def sm (P:Program) (f:FuncId):Prop:=∀ args w,(callFunc f args).run P w = .ok (.enter f args) w
def gX (P:Program) (f:FuncId) (args:List af) (s:ak) (R:eo→ak→Prop):Prop:=
 sm P f∧∀ w p vs,df w p s→bD w p vs args→rZ P f vs.toArray w (u7 s w p R)
theorem y0 {P:Program} {f:FuncId} {fn:Func} (a1:P.funcs[f]? = some fn) (aA:(fn.name == "runtime.NumGoroutine")=false) (an:fn.body.isNone=false):sm P f:=by
 intro args w;unfold callFunc;simp only [z2,run_program,g6,a1,aA,an,ad5,af5,ac4]
theorem u7.mono {s:ak} {w:World} {p:bO} {R dk:eo→ak→Prop} (aC:∀ o s,R o s→dk o s) {e:Ending} {w':World} (h:u7 s w p R e w'):u7 s w p dk e w' :=
 let ⟨o,ai,bg,U,ad,al⟩:=h;⟨o,ai,bg,U,aC _ _ ad,al⟩
theorem hG.mono {P:Program} {fv:af} {args:List af} {s:ak} {R dk:eo→ak→Prop} (h:hG P fv args s R) (aC:∀ o s,R o s→dk o s):hG P fv args s dk :=
 fun w p v vs U ad al=>(h w p v vs U ad al).mono fun _ _ q=>q.mono aC
theorem gX.mono {P:Program} {f:FuncId} {args:List af} {s:ak} {R dk:eo→ak→Prop} (h:gX P f args s R) (aC:∀ o s,R o s→dk o s):gX P f args s dk :=
 ⟨h.1,fun w p vs U ad=>(h.2 w p vs U ad).mono fun _ _ q=>q.mono aC⟩
theorem hG.fa {P:Program} {f:FuncId} {first cap args:List af} {s:ak} {R:eo→ak→Prop} (h:gX P f (first++(args++cap)) s R):hG P (.func f first cap) args s R:=by
 intro w p v vs b5 ar eB;cases ar with
 | func _ as cs _ _ a8 aF=>
 have cK:(do let d ← Deferred.ofValue (.func (.func f) as cs) vs.toArray;invoke d.target d.args:Sem Next).run P w = .ok (.enter f (as++vs.toArray++cs)) w:=by
  simp only [Deferred.ofValue,z2,ac4,g6,invoke];exact h.1 _ _
 rw [cK];have:=h.2 w p (as.toList++(vs++cs.toList)) b5 (a8.append (eB.append aF));have e:(as.toList++(vs++cs.toList)).toArray=as++vs.toArray++cs:=by apply an0;simp
 rw [e] at this;exact this
section
variable {P:Program} {Γ:cj} {N:Nat} {env:Env} {s:ak}
theorem aW.call {o:Oper} {g:Operand} {as:Array Operand} {c0:Array TypeId} {fv:af} {xs:List af} {R:eo→ak→Prop}
  (ah:o.op = .call { callee := .value g,args:=as,argTypes:=c0 }) (au:aJ env g=some fv) (a8:fy env as.toList=some xs) (h:hG P fv xs s R) :
  aW P N o env s (fun x ai=>R (.ret x) ai) (fun x ai=>R (.panic x) ai):=by
 refine ⟨by simp [gm,ah],fun ro B a w p aI=>?_⟩;have cK:=h w p (a.eval g) (as.toList.map a.eval) aI.wf (aI.aJ au) (Bq aI a8);have he:execOp a.eval o=(do let d ← Deferred.ofValue (a.eval g) (as.toList.map a.eval).toArray;invoke d.target d.args:Sem Next):=by
  unfold execOp;rw [ah];simp only [resolve];congr 1;congr 1;apply an0;simp
 rw [he];refine cK.mono ?_;rintro e w' ⟨out,ai,bg,U,ad,al,bd,bB⟩;refine ⟨ai,bg,al,bd,bB,?_⟩;cases e<;>cases out<;>first|exact U.elim|skip
 ·exact ⟨_,ad,U⟩
 ·obtain ⟨v,EB,EC⟩:=U;exact ⟨v,_,EB,ad,EC⟩
theorem fp.call {ops:Array Oper} {Q:bX→Env→ak→Prop} {i:Nat} {l:List Nat} {o:Oper} {d:Nat} {f:FuncId} {as:Array Operand} {c0:Array TypeId} {xs:List af} {R:eo→ak→Prop}
  (ah:ops[i]? = some o) (au:guardOf ops env o=some true) (av:o.dst=some d) (aY:i9 d N=true) (bV:o.op = .call { callee := .value (.func f),args:=as,argTypes:=c0 })
  (a8:fy env as.toList=some xs) (h:gX P f xs s R) (aD:∀ x ai,R (.ret x) ai→fp P N ops l Q ((d,x)::env) ai) (ab:∀ x ai,R (.panic x) ai→Q (.panic x) env ai) :
  fp P N ops (i::l) Q env s:=
 fp.op ah au av aY (aW.call bV (fv := .func f [] []) C a8 (hG.fa gT)) aD ab
theorem fp.ED {ops:Array Oper} {Q:bX→Env→ak→Prop} {i:Nat} {l:List Nat} {o:Oper} {d:Nat} {g:Operand} {fv:af} {as:Array Operand} {c0:Array TypeId} {xs:List af} {R:eo→ak→Prop}
  (ah:ops[i]? = some o) (au:guardOf ops env o=some true) (av:o.dst=some d) (aY:i9 d N=true) (bV:o.op = .call { callee := .value g,args:=as,argTypes:=c0 })
  (ar:aJ env g=some fv) (a8:fy env as.toList=some xs) (h:hG P fv xs s R) (aD:∀ x ai,R (.ret x) ai→fp P N ops l Q ((d,x)::env) ai) (ab:∀ x ai,R (.panic x) ai→Q (.panic x) env ai) :
  fp P N ops (i::l) Q env s:=
 fp.op ah au av aY (aW.call bV ar a8 h) aD ab
def o2 (P:Program) (t:TypeId) (name:String) (f:FuncId):Prop:=∀ v w,(method (P.types.size+Made.depth) t v name).run P w = .ok (f,v) w
theorem QB {P:Program} {t:TypeId} {name:String} {f:FuncId} {info:TypeInfo} {m:Method} {d:TypeDesc} (aS:P.info? t=some info) (hm:info.methods.find? (·.name==name)=some m) (aE:m.path = #[])
  (a1:m.func=some (f,false)) (av:P.underlying t=some d) (QC:∀ e,d ≠ .pointer e) (QD:∃ n,P.types.size+Made.depth=n+1):o2 P t name f:=by
 intro v w;obtain ⟨n,aA⟩:=QD;rw [aA];unfold method;simp only [z2,typeInfo,run_program,g6,aS,ac4,hm,aE,follow,a1,receiverAt,run_underlying av];cases d<;>first|exact absurd C (QC _)|rfl
theorem QE {name:String} {cap args:Array Value}:Go.invoke (.fn (.method name) cap) args=(match args[0]? with
  | some recv=>callMethod recv name (args.extract 1 args.size)
  | none=>stuck "call: a method without a receiver"):=by
 cases h:args[0]? <;> simp [Go.invoke,h]
theorem aW.invoke {o:Oper} {g:Operand} {name:String} {as:Array Operand} {c0:Array TypeId} {t:TypeId} {v:af} {f:FuncId} {xs:List af} {R:eo→ak→Prop}
  (ah:o.op = .call { callee := .invoke g name,args:=as,argTypes:=c0 }) (au:aJ env g=some (.iface t v)) (a8:fy env as.toList=some xs) (hm:o2 P t name f) (h:gX P f (v::xs) s R) :
  aW P N o env s (fun x ai=>R (.ret x) ai) (fun x ai=>R (.panic x) ai):=by
 refine ⟨by simp [gm,ah],fun ro B a w p aI=>?_⟩;have lO:=aI.aJ au;generalize QF:a.eval g=ach at lO;cases lO with
 | iface _ val _ oa=>
 have cK:(execOp a.eval o).run P w = .ok (.enter f (#[val]++(as.map a.eval))) w:=by
  unfold execOp;rw [ah];have hex:(#[Value.iface t val]++as.map a.eval).extract 1 (#[Value.iface t val]++as.map a.eval).size=as.map a.eval:=by
   apply an0;simp [as9,List.take_of_length_le]
  have bo:(#[Value.iface t val]++as.map a.eval)[0]? = some (Value.iface t val):=by
   rw [aq9 bc];rfl
  simp only [resolve,QF,z2,ac4,g6];rw [Go.Proofs.YtnafpeohfbglmaaGreat.QE,bo];simp only [hex,callMethod,z2,run_program,g6,hm val w];exact h.1 _ _
 rw [cK];have:=h.2 w p (val::as.toList.map a.eval) aI.wf (.cons _ _ _ _ oa (Bq aI a8));have e:(val::as.toList.map a.eval).toArray = #[val]++(as.map a.eval):=by apply an0;simp
 rw [e] at this;refine this.mono ?_;rintro e w' ⟨out,ai,bg,U,ad,al,bd,bB⟩;refine ⟨ai,bg,al,bd,bB,?_⟩;cases e<;>cases out<;>first|exact U.elim|skip
 ·exact ⟨_,ad,U⟩
 ·obtain ⟨v,EB,EC⟩:=U;exact ⟨v,_,EB,ad,EC⟩
theorem aW.panic {o:Oper} {x:Operand} {t:TypeId} {v:af} (ah:o.op = .panic x) (ab:aJ env x=some (.iface t v)) {K:af→ak→Prop}:aW P N o env s K (fun u ai=>u = .iface t v∧ai=s):=by
 refine ⟨by simp [gm,ah],fun ro B a w p aI=>?_⟩;have aC:=aI.aJ ab;generalize ar:a.eval x=dG at aC;cases aC with
 | iface _ val _ oa=>
 have cK:(execOp a.eval o).run P w = .halt (.panic (.iface t val)) w:=by
  unfold execOp;rw [ah];simp only [ar,Instr.panic,z2,run_goPanic,Result.andThen_halt]
 rw [cK];exact ⟨s,p,.refl w p,.refl s w p,aI.wf,_,_,wW.one _,⟨rfl,rfl⟩,.iface _ _ _ oa⟩
theorem Jb {sz:Nat}:∀ {vs:List Value} (_:∀ v∈vs,v.cells.size=sz) {j:Nat} {v:Value} (_:vs[j]? = some v) (k:Nat) {u:Value} (_:v.cells.toList[k]? = some u),(flat vs)[j*sz+k]? = some u:=by
 intro vs
 induction vs with
 | nil=>intro _ j v ar;simp at ar
 | cons x vs aX=>
  intro ao j v ar k u hu;have ab:=ao x (i5 ..);simp only [flat,ah4];cases j with
  | zero=>
   simp at ar;subst ar;rw [Nat.zero_mul,ad8,ad3 (ac1.1 hu).1];exact hu
  | succ j=>
   have aB:x.cells.toList.length=sz:=by rw [ac6,ab]
   have:=aX (fun v ar=>ao v (g7 _ ar)) (by simpa using ar) k hu;rw [ad6 (by rw [aB,ah8];omega),aB];have he:(j+1)*sz+k-sz=j*sz+k:=by rw [ah8];omega
   rw [he];exact this
theorem aW.idx (aP:bM P Γ) {o:Oper} {t e:TypeId} {x y:Operand} {it aG:bL} {xs:List af} {own:bN} {k:IntKind} {i:Int} {j:Nat} {v:af} {cs:List af} (ah:o.op = .indexAddr t x y)
  (aK:Γ.get? t=some it) (br:it.bE = .ay e) (bH:Γ.get? e=some aG) (ab:aJ env x=some (.ay aG.size xs own)) (ax:aJ env y=some (.int k i)) (eF:i=(j:Int)) (aO:xs[j]? = some v)
  (aF:cellsOf v=some cs) {X:af→ak→Prop}:aW P N o env s (fun r ai=>r = .bs cs 0∧ai=s) X:=by
 refine aW.jY (by simp [gm,ah]) fun ro B a w p aI=>?_
 obtain ⟨info,d,U,ad,al,-⟩:=aP.parts aK;obtain ⟨jx,jZ,cv,db,e8,ew,-⟩:=aP.parts bH;have av:d = .slice e:=by rw [br] at al;cases d<;>simp [eh] at al;rw [al]
 subst av;have aC:=aI.aJ ab;have iM:=aI.aJ ax;generalize ei:a.eval x=dG at aC;generalize e9:a.eval y=fJ at iM;cases iM;subst eF;have u9:j<xs.length:=(ac1.1 aO).1;cases aC with
 | hL=>simp at aO
 | ib=>simp at aO
 | ay g off n cap _ vs _ _ aA aB cu gW ao hm aD Jc cr=>
 obtain ⟨u,hu,yP⟩:=gW.get aO;have mQ:=pM yP aF;refine ⟨.pointer (some ⟨g,off+j*aG.size,none⟩),w,s,p,_,?_,.refl w p,.refl s w p,aI.wf,⟨rfl,rfl⟩,.bs g (off+j*aG.size) _ 0 u.cells.toList cs C ?_ mQ⟩
 ·unfold execOp
  rw [ah];simp only [ei,e9];refine gC ?_;have az:(0:Int)≤(j:Int)∧(j:Int)<(n:Int):=by omega
  simp [Instr.indexAt,asIntOf,run_underlying ad,az.2,sizeOf,typeInfo,cv,ew,kP];intro a';omega
 ·intro i fj oU
  have:=cu (j*aG.size+i) fj (Jb ao hu i oU);rw [← ak4] at this;exact this
end
def u' (Γ:cj) (o:Oper) (env:Env):Option af:=
  match o.op with
  | .binOp .quo _ x (.const (.int k (.ofNat (n+1)))) _=>match aJ env x with
    | some (.int k' a)=>if k'=k then some (.int k (k.wrap (a.tdiv (aq6 (n+1))))) else none
    | _=>none
  | .binOp .rem _ x (.const (.int k (.ofNat (n+1)))) _=>match aJ env x with
    | some (.int k' a)=>if k'=k then some (.int k (a.tmod (aq6 (n+1)))) else none
    | _=>none
  | .convert s d x=>match Γ.get? s,Γ.get? d with
    | some ⟨.int _,_,_,_⟩,some ⟨.int k,_,_,_⟩=>match aJ env x with
      | some (.int _ n)=>some (.int k (k.wrap n))
      | _=>none
    | _,_=>none
  | .call { callee := .builtin .max,args,argTypes:=_ }=>match args.toList with
    | [x,y]=>match aJ env x,aJ env y with
      | some (.int k a),some (.int _ b)=>some (.int k (if b>a then b else a))
      | _,_=>none
    | _=>none
  | .call { callee := .builtin .min,args,argTypes:=_ }=>match args.toList with
    | [x,y]=>match aJ env x,aJ env y with
      | some (.int k a),some (.int _ b)=>some (.int k (if b<a then b else a))
      | _,_=>none
    | _=>none
  | _=>none
section
variable {P:Program} {Γ:cj} (aP:bM P Γ) {N:Nat} {B:fx} {ro:Option Nat} {env:Env} {s:ak} {a:Act} {w:World} {p:bO} (aI:dq N B ro env s a w p)
theorem tt {o:Oper} {op:BinOp} {t yt:TypeId} {x y:Operand} {v:Value} {r:af} (ah:o.op = .binOp op t x y yt)
  (U:(eqGuard op t x y (a.eval x) (a.eval y)).run P w = .ok () w) (ad:(binOp op t (a.eval x) (a.eval y)).run P w = .ok v w) (aC:Rel w p v r):gB P o a w p r:=by
 refine .same (val:=v) ?_ aC;unfold execOp;rw [ah];refine gC ?_;rw [z2,U,g6,ad]
include aI
include aP
theorem QG {o:Oper} {v:af} (h:u' Γ o env=some v):gB P o a w p v:=by
 unfold u' at h;split at h
 ·rename_i t x k n yt ah
  split at h
  ·rename_i k' u ab
   split at h
   ·rename_i aD
    cases h;subst aD;have U:=aI.aJ ab;generalize ar:a.eval x=dG at U;cases U;refine tt (v := .int k' (k'.wrap (u.tdiv (aq6 (n+1))))) ah ?_ ?_ (.int _ _)
    ·rfl
    ·rw [ar]
     have aA:¬ (aq6 (n+1)=0):=by simp;omega
     simp only [Act.eval,binOp,Op.intDiv,ne_eq,not_true_eq_false,af5,aA,ac4]
   ·cases h
  ·cases h
 ·rename_i t x k n yt ah
  split at h
  ·rename_i k' u ab
   split at h
   ·rename_i aD
    cases h;subst aD;have U:=aI.aJ ab;generalize ar:a.eval x=dG at U;cases U;refine tt (v := .int k' (u.tmod (aq6 (n+1)))) ah ?_ ?_ (.int _ _)
    ·rfl
    ·rw [ar]
     have aA:¬ (aq6 (n+1)=0):=by simp;omega
     simp only [Act.eval,binOp,Op.intDiv,ne_eq,not_true_eq_false,af5,aA,ac4]
   ·cases h
  ·cases h
 ·rename_i jA d x ah
  split at h
  ·rename_i Jd dm a2 a3 k hU dL mU ao av
   split at h
   ·rename_i cv n ab
    cases h;obtain ⟨info,d1,U,ad,al,-⟩:=aP.parts ao;obtain ⟨l8,Je,nj,nk,uV,-⟩:=aP.parts av;have b7:Je = .int k:=by cases Je<;>simp [eh] at uV;rw [uV]
    have aC:=aI.aJ ab;generalize ar:a.eval x=dG at aC;cases aC;refine .same (val := .int k (k.wrap n)) ?_ (.int _ _);unfold execOp;rw [ah];refine gC ?_;subst b7;rw [ar];cases d1<;>simp [eh] at al
    simp [convert,run_underlying ad,run_underlying nk,Conv.intToInt]
   ·cases h
  ·cases h
 ·rename_i args fU ah
  split at h
  ·rename_i x y aB
   have va:args = #[x,y]:=by apply an0;simpa using aB
   subst va;split at h
   ·rename_i k u k' fj ab ax
    cases h;have U:=aI.aJ ab;have ad:=aI.aJ ax;generalize ei:a.eval x=dG at U;generalize e9:a.eval y=fJ at ad;cases U;cases ad;refine .same (val := .int k (if fj>u then fj else u)) ?_ (.int _ _);unfold execOp;rw [ah];simp only [resolve,invoke,builtin,z2,ac4,g6,ao8,ac0,ae3,ei,e9,run_max_int2]
   ·cases h
  ·cases h
 ·rename_i args fU ah
  split at h
  ·rename_i x y aB
   have va:args = #[x,y]:=by apply an0;simpa using aB
   subst va;split at h
   ·rename_i k u k' fj ab ax
    cases h;have U:=aI.aJ ab;have ad:=aI.aJ ax;generalize ei:a.eval x=dG at U;generalize e9:a.eval y=fJ at ad;cases U;cases ad;refine .same (val := .int k (if fj<u then fj else u)) ?_ (.int _ _);unfold execOp;rw [ah];simp only [resolve,invoke,builtin,z2,ac4,g6,ao8,ac0,ae3,ei,e9,run_min_int2]
   ·cases h
  ·cases h
 ·cases h
omit aI aP in
theorem QH {o:Oper} {v:af} (h:u' Γ o env=some v):gm o=true:=by
 unfold gm;cases ah:o.op<;>first|rfl|(unfold u' at h;rw [ah] at h;cases h)
omit aP in
theorem QI {o:Oper} {t yt:TypeId} {x y:Operand} {u v:List UInt8} (ah:o.op = .binOp .add t x y yt) (ab:aJ env x=some (.str u)) (ax:aJ env y=some (.str v)) (aB:u.length+v.length≤9223372036854775807) :
  gB P o a w p (.str (u++v)):=by
 have U:=aI.aJ ab;have ad:=aI.aJ ax;generalize ei:a.eval x=dG at U;generalize e9:a.eval y=fJ at ad;cases U with|str hU _ b7=>cases ad with|str dL _ bR=>
 refine tt (v := .string (hU++dL)) ah ?_ ?_ ?_
 ·exact rfl
 ·rw [ei,e9]
  have ao:¬ ((hU.size+dL.size:Nat):Int)>IntKind.i64.max:=by
   have dm:hU.size=u.length:=by rw [← b7];simp
   have a2:dL.size=v.length:=by rw [← bR];simp
   have:IntKind.i64.max=9223372036854775807:=by decide
   rw [dm,a2,this];omega
  simp only [binOp,Op.stringOp,f0 ao,ac4]
 ·exact .str _ _ (by rw [← b7,← bR];simp [ByteArray.data_append])
theorem QJ {o:Oper} {t e:TypeId} {x y:Operand} {it aG:bL} {sz:Nat} {xs:List af} {own:bN} {k:IntKind} {i:Int} {j:Nat} {v:af} {cs:List af} (ah:o.op = .indexAddr t x y)
  (aK:Γ.get? t=some it) (br:it.bE = .ay e) (bH:Γ.get? e=some aG) (ab:aJ env x=some (.ay sz xs own)) (b':sz=aG.size) (ax:aJ env y=some (.int k i)) (eF:i=(j:Int)) (aO:xs[j]? = some v)
  (aF:cellsOf v=some cs):gB P o a w p (.bs cs 0):=by
 subst b';obtain ⟨info,d,U,ad,al,-⟩:=aP.parts aK;obtain ⟨jx,jZ,cv,db,e8,ew,-⟩:=aP.parts bH;have av:d = .slice e:=by rw [br] at al;cases d<;>simp [eh] at al;rw [al]
 subst av;have aC:=aI.aJ ab;have iM:=aI.aJ ax;generalize ei:a.eval x=dG at aC;generalize e9:a.eval y=fJ at iM;cases iM;subst eF;have u9:j<xs.length:=(ac1.1 aO).1;cases aC with
 | hL=>simp at aO
 | ib=>simp at aO
 | ay g off n cap _ vs _ _ aA aB cu gW ao hm aD Jc cr=>
 obtain ⟨u,hu,yP⟩:=gW.get aO;have mQ:=pM yP aF;refine .same (val := .pointer (some ⟨g,off+j*aG.size,none⟩)) ?_ (.bs g (off+j*aG.size) _ 0 u.cells.toList cs C ?_ mQ)
 ·unfold execOp
  rw [ah];simp only [ei,e9];refine gC ?_;have az:(0:Int)≤(j:Int)∧(j:Int)<(n:Int):=by omega
  simp [Instr.indexAt,asIntOf,run_underlying ad,az.2,sizeOf,typeInfo,cv,ew,kP];intro a';omega
 ·intro i fj oU
  have:=cu (j*aG.size+i) fj (Jb ao hu i oU);rw [← ak4] at this;exact this
theorem QK {o:Oper} {t:TypeId} {x y:Operand} {it:bL} {l:List UInt8} {k:IntKind} {i:Int} {j:Nat} {b:UInt8} (ah:o.op = .index t x y)
  (aK:Γ.get? t=some it) (br:it.bE = .str) (ab:aJ env x=some (.str l)) (ax:aJ env y=some (.int k i)) (eF:i=(j:Int)) (aO:l[j]? = some b) :
  gB P o a w p (.int .u8 b.toNat):=by
 obtain ⟨info,d,U,ad,al,-⟩:=aP.parts aK;have av:d = .string:=by rw [br] at al;cases d<;>simp [eh] at al;rfl
 subst av;have aC:=aI.aJ ab;have iM:=aI.aJ ax;generalize ei:a.eval x=dG at aC;generalize e9:a.eval y=fJ at iM;cases iM;subst eF;cases aC with
 | str mf _ e=>
 have au:mf[j]? = some b:=by
  rw [← e] at aO;have:mf.data[j]? = some b:=by simpa using aO
  exact this
 refine .same (val := .int .u8 b.toNat) ?_ (.int _ _);unfold execOp;rw [ah];simp only [ei,e9];refine gC ?_;simp [Instr.index,asIntOf,run_underlying ad,au]
omit aI aP in
theorem QL {sz:Nat}:∀ {vs:List Value} (_:∀ v∈vs,v.cells.size=sz) (l:Nat) (i:Nat),l≤vs.length→(flat (vs.drop l))[i]? = (flat vs)[l*sz+i]?:=by
 intro vs
 induction vs with
 | nil=>
  intro _ l i aB;have:l=0:=by simpa using aB
  subst this;simp
 | cons v vs aX=>
  intro ao l i aB;cases l with
  | zero=>simp
  | succ l=>
   have ar:=ao v (i5 ..);rw [al4,aX (fun v ar=>ao v (g7 _ ar)) l i (by simpa using aB)];simp only [flat,ah4];rw [ad6 (by rw [ac6,ar,ah8];omega),ac6,ar];congr 1;rw [ah8];omega
omit aI aP in
theorem QM {vs:List Value} (h:Nat) {i:Nat} {u:Value} (hu:(flat (vs.take h))[i]? = some u):(flat vs)[i]? = some u:=by
 have:flat vs=flat (vs.take h)++flat (vs.drop h):=by rw [← Ey,List.take_append_drop]
 rw [this,ad3 (ac1.1 hu).1];exact hu
theorem QN {o:Oper} {t e:TypeId} {x:Operand} {gD aS iZ:Option Operand} {it aG:bL} {sz:Nat} {xs:List af} {own c5:bN} {l h:Nat} (ah:o.op = .slice t x gD aS iZ)
  (aK:Γ.get? t=some it) (br:it.bE = .ay e) (bH:Γ.get? e=some aG) (ab:aJ env x=some (.ay sz xs own)) (b':xs=[]∨sz=aG.size)
  (iz:(gD=none∧l=0)∨∃ y k,gD=some y∧aJ env y=some (.int k (l:Int))) (pT:(aS=none∧iZ=none∧h=xs.length)∨∃ y k,aS=some y∧aJ env y=some (.int k (h:Int)))
  (mV:(iZ=none∧c5 = .aZ)∨(∃ y k,iZ=some y∧aJ env y=some (.int k (h:Int))∧c5 = .clip)) (aB:l≤h) (c6:h≤xs.length):gB P o a w p (.ay sz ((xs.take h).drop l) c5):=by
 obtain ⟨info,d,U,ad,al,-⟩:=aP.parts aK;obtain ⟨jx,jZ,cv,db,e8,ew,-⟩:=aP.parts bH;have av:d = .slice e:=by rw [br] at al;cases d<;>simp [eh] at al;rw [al]
 subst av;have jB:∀ b,c5 ≠ .own b:=by rcases mV with ⟨-,rfl⟩|⟨_,_,-,-,rfl⟩<;>simp
 have EE:c5 ≠ .nil:=by rcases mV with ⟨-,rfl⟩|⟨_,_,-,-,rfl⟩<;>simp
 have o3:∀ {y k} {n:Nat},aJ env y=some (.int k (n:Int))→a.eval y = .int k (n:Int):=fun he=>by
  have:=aI.aJ he;generalize a.eval _=v at this ⊢;cases this;rfl
 have QO:∀ (cap:Nat),xs.length≤cap→∃ m,(Instr.sliceBounds true xs.length cap (gD.map a.eval) (aS.map a.eval) (iZ.map a.eval)).run P w = .ok (l,h,m) w∧h≤m∧m≤cap∧(c5 = .clip→m=h):=by
  intro cap j1;have aA:∀ n:Nat,(0:Int)≤(n:Int):=fun n=>by omega
  have EF:(l:Int)≤(h:Int):=by omega
  have BG:(h:Int)≤(cap:Int):=by omega
  rcases mV with ⟨rfl,rfl⟩|⟨abX,abZ,rfl,y1,rfl⟩
  ·rcases pT with ⟨rfl,-,rfl⟩|⟨QP,QQ,rfl,y2⟩
   ·refine ⟨cap,?_,j1,i0 _,by simp⟩
    rcases iz with ⟨rfl,rfl⟩|⟨Jf,mW,rfl,h4⟩
    ·simp [Instr.sliceBounds]
    ·simp [Instr.sliceBounds,o3 h4,run_sliceBound,aA,EF]
   ·refine ⟨cap,?_,by omega,i0 _,by simp⟩
    rcases iz with ⟨rfl,rfl⟩|⟨Jf,mW,rfl,h4⟩
    ·simp [Instr.sliceBounds,o3 y2,run_sliceBound,aA,BG]
    ·simp [Instr.sliceBounds,o3 y2,o3 h4,run_sliceBound,aA,EF,BG]
  ·rcases pT with ⟨-,bo,-⟩|⟨QP,QQ,rfl,y2⟩
   ·cases bo
   ·refine ⟨h,?_,i0 _,by omega,fun _=>rfl⟩
    rcases iz with ⟨rfl,rfl⟩|⟨Jf,mW,rfl,h4⟩
    ·simp [Instr.sliceBounds,o3 y2,o3 y1,run_sliceBound,aA,BG]
    ·simp [Instr.sliceBounds,o3 y2,o3 h4,o3 y1,run_sliceBound,aA,EF,BG]
 have eC:∀ base cap val,a.eval x = .slice base xs.length cap→xs.length≤cap→(∀ m,h≤m→m≤cap→(c5 = .clip→m=h)→Rel w p (.slice (if m=l then base else base.map (·.add (l*aG.size))) (h-l) (m-l)) val)→gB P o a w p val:=by
  intro base cap val ei j1 eG;obtain ⟨m,an,pU,lP,QR⟩:=QO cap j1;refine .same ?_ (eG m pU lP QR);unfold execOp;rw [ah];simp only [ei];refine gC ?_;simp only [Instr.sliceAt,Instr.slice,z2,run_underlying ad,g6,an,sizeOf,typeInfo,run_program,cv,ac4,ew]
 have aC:=aI.aJ ab;generalize ei:a.eval x=dG at aC;cases aC with
 | hL _ _ _=>
  refine eC none 0 _ ei (i0 _) (fun m U ad al=>?_);have b7:h=0:=by simpa using c6
  have bR:l=0:=by omega
  have eE:m=0:=by omega
  subst b7;subst bR;subst eE;simp only [ae2,az5,aq8];exact .hL _ _ jB
 | ib a _ _ _=>
  refine eC (some a) 0 _ ei (i0 _) (fun m U ad al=>?_);have b7:h=0:=by simpa using c6
  have bR:l=0:=by omega
  have eE:m=0:=by omega
  subst b7;subst bR;subst eE;simp only [ae2,az5,aq8];refine .ib a _ _ ?_;cases c5 with
  | aZ=>exact .inl C
  | clip=>exact .inr C
  | nil=>exact absurd C EE
  | own b=>exact absurd C (jB b)
 | ay g off n cap _ vs _ _ aA nq cu gW ao hm aD Jc cr=>
  subst nq;refine eC _ cap _ ei aD (fun m U ad al=>?_);have hlen:h-l=((xs.take h).drop l).length:=by simp;omega
  have fq:=gW.length;have QS:∃ BH,(if m=l then (some ⟨g,off,none⟩:Option Addr) else (some ⟨g,off,none⟩:Option Addr).map (·.add (l*aG.size)))=some ⟨g,BH,none⟩∧(m≠l→BH=off+l*aG.size):=by
   by_cases e:m=l
   ·exact ⟨off,by simp [e],fun h=>absurd e h⟩
   ·exact ⟨off+l*aG.size,by simp [e,kP],fun _=>rfl⟩
  obtain ⟨BH,QT,QU⟩:=QS;rw [QT];refine .ay g BH _ _ sz ((vs.take h).drop l) _ c5 EE hlen ?_ ((gW.take h).drop l) (fun v ar=>ao v (am5 (List.mem_of_mem_drop ar))) ag ag (fun aF=>by have:=al aF;omega) (fun b an=>absurd an (jB b));intro i u hu;by_cases e:m=l
  ·have:(vs.take h).drop l=[]:=by apply List.drop_eq_nil_of_le;rw [ac9];omega
   rw [this] at hu;simp [flat] at hu
  ·rw [QU e]
   have u6:∀ v∈vs.take h,v.cells.size=aG.size:=by
    rcases b' with rfl|rfl
    ·have:vs=[]:=ag3 (by rw [fq];rfl)
     subst this;simp
    ·exact fun v ar=>ao v (am5 ar)
   rw [QL u6 l i uJ] at hu;have:=cu _ _ (QM h hu);rw [← ak4] at this;exact this
end
def nr (l:List UInt8):List af:=l.map fun b => .int .u8 b.toNat
theorem Jg (l:List UInt8):(nr l).length=l.length:=by simp [nr]
theorem Jh {w:World} {p:bO}:∀ (l:List UInt8),bD w p (l.map fun b=>Value.int .u8 b.toNat) (nr l)
 | [] => .nil
 | b::l => .cons _ _ _ _ (.int _ _) (Jh l)
theorem Ji {w:World} {p:bO}:∀ {l:List UInt8} {vs:List Value},bD w p vs (nr l)→vs=l.map fun b=>Value.int .u8 b.toNat
  | [],_,h=>by cases h;rfl
  | b::l,_,h=>by
    cases h with|cons v _ vs _ U ad=>
    cases U;rw [Ji ad];rfl
section
variable {P:Program} {Γ:cj} (aP:bM P Γ) {N:Nat} {B:fx} {ro:Option Nat} {env:Env} {s:ak} {a:Act} {w:World} {p:bO} (aI:dq N B ro env s a w p)
include aI aP
omit aI aP in
theorem Jj:∀ (l:List UInt8),flat (l.map fun b=>Value.int .u8 b.toNat)=l.map fun b=>Value.int .u8 b.toNat:=by
 intro l
 induction l with
 | nil=>rfl
 | cons b l aX=>simp only [flat,ac0,ah4,Value.cells] at aX ⊢;rw [aX];rfl
theorem QV {o:Oper} {jA d e:TypeId} {x:Operand} {is id aG:bL} {sz:Nat} {l:List UInt8} {own:bN} (ah:o.op = .convert jA d x) (ao:Γ.get? jA=some is) (av:Γ.get? d=some id) (j3:is.bE = .ay e) (mX:id.bE = .str)
  (he:Γ.get? e=some aG) (ob:aG.bE = .int .u8) (ab:aJ env x=some (.ay sz (nr l) own)):gB P o a w p (.str l):=by
 obtain ⟨i1,d1,dm,a2,a3,-⟩:=aP.parts ao;obtain ⟨i2,d2,hU,dL,mU,-⟩:=aP.parts av;obtain ⟨i3,d3,cP,c9,eP,-⟩:=aP.parts he;have b7:d1 = .slice e:=by rw [j3] at a3;cases d1<;>simp [eh] at a3;rw [a3]
 have bR:d2 = .string:=by rw [mX] at mU;cases d2<;>simp [eh] at mU;rfl
 have eE:d3 = .int .u8:=by rw [ob] at eP;cases d3<;>simp [eh] at eP;rw [eP]
 subst b7;subst bR;subst eE;have eC:∀ v,(convert jA d (a.eval x)).run P w = .ok v w→(execOp a.eval o).run P w = .ok (.value v) w:=fun v h=>by
  unfold execOp;rw [ah];exact gC h
 have aC:=aI.aJ ab;generalize ar:a.eval x=dG at aC eC;generalize kj:nr l=BI at aC;cases aC with
 | hL=>
  have aB:l=[]:=by cases l with|nil=>rfl|cons b l=>simp [nr] at kj
  subst aB;refine .same (val := .string ByteArray.empty) (eC _ ?_) (.str _ _ C);rw [run_convert_bytes_string w jA d e none 0 0 a2 c9 dL];rfl
 | ib c3 _ _ _=>
  have aB:l=[]:=by cases l with|nil=>rfl|cons b l=>simp [nr] at kj
  subst aB;exact .same (val := .string ⟨#[]⟩) (eC _ (run_convert_bytes_back w jA d e c3 0 [] a2 c9 dL (fun j aO=>by simp at aO))) (.str _ _ C)
 | ay g off n cap _ vs _ _ aA aB aF gW b' hm aD cu cr=>
  subst kj;have eB:=Ji gW;subst eB;rw [Jg] at aB;subst aB;refine .same (val := .string ⟨l.toArray⟩) (eC _ ?_) (.str _ _ bc);refine run_convert_bytes_back w jA d e ⟨g,off,none⟩ cap l a2 c9 dL (fun j aO=>?_);rw [kP];refine (aF j _ ?_).2;rw [Jj];simp [List.getElem?_eq_getElem aO]
theorem QW {o:Oper} {jA d e:TypeId} {x:Operand} {is id aG:bL} {l:List UInt8} (ah:o.op = .convert jA d x) (ao:Γ.get? jA=some is) (av:Γ.get? d=some id) (j3:is.bE = .str) (mX:id.bE = .ay e)
  (he:Γ.get? e=some aG) (ob:aG.bE = .int .u8) (ab:aJ env x=some (.str l)) (EG:l.length≤9223372036854775807):gB P o a w p (.ay 1 (nr l) .aZ):=by
 obtain ⟨i1,d1,dm,a2,a3,-⟩:=aP.parts ao;obtain ⟨i2,d2,hU,dL,mU,-⟩:=aP.parts av;obtain ⟨i3,d3,cP,c9,eP,-⟩:=aP.parts he;have b7:d1 = .string:=by rw [j3] at a3;cases d1<;>simp [eh] at a3;rfl
 have bR:d2 = .slice e:=by rw [mX] at mU;cases d2<;>simp [eh] at mU;rw [mU]
 have eE:d3 = .int .u8:=by rw [ob] at eP;cases d3<;>simp [eh] at eP;rw [eP]
 subst b7;subst bR;subst eE;have aC:=aI.aJ ab;generalize ar:a.eval x=dG at aC;cases aC with
 | str mf _ ns=>
 have b':mf.size=l.length:=by rw [← ns];simp
 have cK:=run_bytes_of_string (P:=P) w jA d e mf a2 dL c9;generalize j1:grownCap w mf.size 0 e=cap at cK;have mS:mf.size≤cap:=by rw [← j1];simp [grownCap,Question.cut]
 have i':(bytesRow mf cap).toList=(l.map fun b=>Value.int .u8 b.toNat)++t6 (cap-mf.size) (.int .u8 0):=by
  simp [bytesRow,← ns]
 generalize QX:Obj.cells (bytesRow mf cap) e ((bytesRow mf cap).size,(bytesRow mf cap).size+1)=dt at cK;have hle:c8 w p (w.drew.alloc dt) (p.dR w.heap.size True):=c8.trans kn (tk (w:=w.drew) (fun b o h=>aI.wf.lt b o h) dt True);refine ⟨.slice (some ⟨w.heap.size,0,none⟩) mf.size cap,_,_,?_,?_,hle,fun ai gY=>⟨?_,?_⟩⟩
 ·unfold execOp
  rw [ah];simp only [ar];exact gC cK
 ·refine .ay w.heap.size 0 _ cap 1 (l.map fun b=>Value.int .u8 b.toNat) (nr l) .aZ bc (by rw [Jg,b']) ?_ (Jh l) (by simp [Value.cells]) ag mS bc bc
  rw [Jj];intro i v Jk;refine ⟨.inr ⟨rfl,trivial⟩,?_⟩;have c6:(w.drew.alloc dt).heap[w.heap.size]? = some dt:=tj w.drew dt;rw [← QX] at c6 ⊢;simp only [World.cell?,c6,ar2,ad5,af5,ad8];have:(bytesRow mf cap).toList[i]? = some v:=by
   rw [i',ad3 (ac1.1 Jk).1];exact Jk
  simpa using this
 ·exact Kept.trans (s₁:=ai) (w₁:=w.drew) (p₁:=p) (i0 _) uR (Bi (w:=w.drew) dt True)
 ·exact yH (w:=w.drew) (w1 gY) dt True
end
inductive lb (Γ:cj) (o:Oper) (env:Env):af→Prop
 | a {v:af} (h:oS Γ o env=some v):lb Γ o env v
 | x {v:af} (h:u' Γ o env=some v):lb Γ o env v
 | cat {t yt:TypeId} {x y:Operand} {u v:List UInt8} (ah:o.op = .binOp .add t x y yt) (ab:aJ env x=some (.str u)) (ax:aJ env y=some (.str v)) (aB:u.length+v.length≤9223372036854775807):lb Γ o env (.str (u++v))
 | toStr {jA d e:TypeId} {x:Operand} {is id aG:bL} {sz:Nat} {l:List UInt8} {own:bN} (ah:o.op = .convert jA d x) (ao:Γ.get? jA=some is) (av:Γ.get? d=some id) (j3:is.bE = .ay e) (mX:id.bE = .str)
   (he:Γ.get? e=some aG) (ob:aG.bE = .int .u8) (ab:aJ env x=some (.ay sz (nr l) own)):lb Γ o env (.str l)
 | BJ {jA d e:TypeId} {x:Operand} {is id aG:bL} {l:List UInt8} (ah:o.op = .convert jA d x) (ao:Γ.get? jA=some is) (av:Γ.get? d=some id) (j3:is.bE = .str) (mX:id.bE = .ay e)
   (he:Γ.get? e=some aG) (ob:aG.bE = .int .u8) (ab:aJ env x=some (.str l)) (EG:l.length≤9223372036854775807):lb Γ o env (.ay 1 (nr l) .aZ)
 | idx {t e:TypeId} {x y:Operand} {it aG:bL} {sz:Nat} {xs:List af} {own:bN} {k:IntKind} {i:Int} (j:Nat) {v:af} {cs:List af} (ah:o.op = .indexAddr t x y)
   (aK:Γ.get? t=some it) (br:it.bE = .ay e) (bH:Γ.get? e=some aG) (ab:aJ env x=some (.ay sz xs own)) (b':sz=aG.size) (ax:aJ env y=some (.int k i)) (eF:i=(j:Int)) (aO:xs[j]? = some v)
   (aF:cellsOf v=some cs):lb Γ o env (.bs cs 0)
 | y3 {t:TypeId} {x y:Operand} {it:bL} {l:List UInt8} {k:IntKind} {i:Int} (j:Nat) {b:UInt8} (ah:o.op = .index t x y)
   (aK:Γ.get? t=some it) (br:it.bE = .str) (ab:aJ env x=some (.str l)) (ax:aJ env y=some (.int k i)) (eF:i=(j:Int)) (aO:l[j]? = some b):lb Γ o env (.int .u8 b.toNat)
 | slice {t e:TypeId} {x:Operand} {gD aS iZ:Option Operand} {it aG:bL} {sz:Nat} {xs:List af} {own c5:bN} (l h:Nat) (ah:o.op = .slice t x gD aS iZ)
   (aK:Γ.get? t=some it) (br:it.bE = .ay e) (bH:Γ.get? e=some aG) (ab:aJ env x=some (.ay sz xs own)) (b':xs=[]∨sz=aG.size)
   (iz:(gD=none∧l=0)∨∃ y k,gD=some y∧aJ env y=some (.int k (l:Int))) (pT:(aS=none∧iZ=none∧h=xs.length)∨∃ y k,aS=some y∧aJ env y=some (.int k (h:Int)))
   (mV:(iZ=none∧c5 = .aZ)∨(∃ y k,iZ=some y∧aJ env y=some (.int k (h:Int))∧c5 = .clip)) (aB:l≤h) (c6:h≤xs.length):lb Γ o env (.ay sz ((xs.take h).drop l) c5)
theorem lb.ok {P:Program} {Γ:cj} (aP:bM P Γ) {N:Nat} {B:fx} {ro:Option Nat} {env:Env} {s:ak} {a:Act} {w:World} {p:bO} (aI:dq N B ro env s a w p) {o:Oper} {v:af} (h:lb Γ o env v):gB P o a w p v:=by
 cases h with
 | a h=>exact I3 aP aI h
 | x h=>exact QG aP aI h
 | cat ah ab ax aB=>exact QI aI ah ab ax aB
 | toStr ah ao av j3 mX he ob ab=>exact QV aP aI ah ao av j3 mX he ob ab
 | BJ ah ao av j3 mX he ob ab aB=>exact QW aP aI ah ao av j3 mX he ob ab aB
 | idx j ah aK br bH ab b' ax eF aO aF=>exact QJ aP aI ah aK br bH ab b' ax eF aO aF
 | y3 j ah aK br ab ax eF aO=>exact QK aP aI ah aK br ab ax eF aO
 | slice l h ah aK br bH ab b' iz pT mV aB c6=>exact QN aP aI ah aK br bH ab b' iz pT mV aB c6
theorem lb.gm {Γ:cj} {env:Env} {o:Oper} {v:af} (h:lb Γ o env v):Go.Proofs.YtnafpeohfbglmaaGreat.gm o=true:=by
 cases h with
 | a h=>exact I4 h
 | x h=>exact QH h
 | cat ah=>simp [Go.Proofs.YtnafpeohfbglmaaGreat.gm,ah]
 | toStr ah=>simp [Go.Proofs.YtnafpeohfbglmaaGreat.gm,ah]
 | BJ ah=>simp [Go.Proofs.YtnafpeohfbglmaaGreat.gm,ah]
 | idx j ah=>simp [Go.Proofs.YtnafpeohfbglmaaGreat.gm,ah]
 | y3 j ah=>simp [Go.Proofs.YtnafpeohfbglmaaGreat.gm,ah]
 | slice l h ah=>simp [Go.Proofs.YtnafpeohfbglmaaGreat.gm,ah]
theorem aW.pure {P:Program} {Γ:cj} (aP:bM P Γ) {N:Nat} {env:Env} {s:ak} {o:Oper} {v:af} (h:lb Γ o env v):aW P N o env s (fun x ai=>x=v∧ai=s) (fun _ _=>False):=
 aW.mO h.gm fun _ _ _ _ _ aI=>h.ok aP aI
def qU:Nat→List af→Env
 | _,[]=>[]
 | k,v::vs=>(k,v)::qU (k+1) vs
def y4 (Γ:cj) (env:Env) (s:ak):ResultVar→Option af
  | .tmp t=>env.get? t
  | .cell a t=>match env.get? a,Γ.get? t with
    | some (.ptr b o),some i=>match s b with
      | some (.box _ cs)=>hD i cs o
      | _=>none
    | some (.bs cs o),some i=>hD i cs o
    | _,_=>none
def vb (Γ:cj) (env:Env) (s:ak):List ResultVar→Option (List af)
  | []=>some []
  | r::rs=>match y4 Γ env s r with
    | some v=>match vb Γ env s rs with
      | some vs=>some (v::vs)
      | none=>none
    | none=>none
def nt (Γ:cj) (env:Env) (s:ak) (rs:List ResultVar):Option af:=
 match vb Γ env s rs with
 | some [v]=>some v
 | some vs=>some (.cg vs)
 | none=>none
section
variable {P:Program} {Γ:cj}
theorem QY (aP:bM P Γ) {N:Nat} {B:fx} {ro:Option Nat} {env:Env} {s:ak} {a:Act} {w w':World} {p:bO} (aI:dq N B ro env s a w p)
  (hw:∀ b o v,w.cell? ⟨b,o,none⟩=some v→w'.cell? ⟨b,o,none⟩=some v) (iW:∀ v x,Rel w p v x→Rel w' p v x) {r:ResultVar} {v:af} (h:y4 Γ env s r=some v) :
  ∃ val,((match r with
   | .tmp t=>pure (a.tmps.getD t undef)
   | .cell b t=>do loadVar t (← asAddr (a.tmps.getD b undef))):Sem Value).run P w' = .ok val w'∧Rel w' p val v:=by
 cases r with
 | tmp t=>exact ⟨_,rfl,iW _ _ (aI.env t v h)⟩
 | cell b t=>
  simp only [y4] at h;split at h
  ·rename_i aT o i an aS
   split at h
   ·rename_i T cs ao
    have aC:=aI.env b _ an;generalize ar:a.tmps.getD b undef=yY at aC;cases aC;obtain ⟨vs,U,ad,al⟩:=aI.wf.obj _ _ ao;have gW:bD w' p vs.toList cs:=by
     have:∀ us xs,bD w p us xs→bD w' p us xs:=by
      intro us
      induction us with
      | nil=>intro xs h;cases h;exact .nil
      | cons u us aX=>intro xs h;cases h with|cons _ x _ xs ab aK=>exact .cons _ _ _ _ (iW _ _ ab) (aX _ aK)
     exact this _ _ ad
    obtain ⟨val,cK,eG⟩:=yM aP aS (b:=aT) (base:=0) (vs:=vs.toList) (w:=w') (fun j u hu=>by
     rw [ad8];refine hw _ _ _ ?_;rw [jq U];simpa using hu) gW h
    rw [ad8] at cK;exact ⟨val,by simp only [ar,asAddr,z2,ac4,g6,cK],eG⟩
   ·cases h
  ·rename_i cs o i an aS
   have aC:=iW _ _ (aI.env b _ an);generalize ar:a.tmps.getD b undef=yY at aC;cases aC with
   | bs mf base tn _ vs _ lL aF gW=>
   subst lL;obtain ⟨val,cK,eG⟩:=yM aP aS (b:=mf) (base:=base) (fun j u hu=>(aF j u hu).2) gW h;exact ⟨val,by simp only [ar,asAddr,z2,ac4,g6,cK],eG⟩
  ·cases h
theorem QZ (aP:bM P Γ) {N:Nat} {B:fx} {ro:Option Nat} {env:Env} {s:ak} {a:Act} {w w':World} {p:bO} (aI:dq N B ro env s a w p)
  (hw:∀ b o v,w.cell? ⟨b,o,none⟩=some v→w'.cell? ⟨b,o,none⟩=some v) (iW:∀ v x,Rel w p v x→Rel w' p v x):∀ {rs:List ResultVar} {xs:List af} (_:vb Γ env s rs=some xs),
  ∃ mg,(rs.mapM fun r=>((match r with
   | .tmp t=>pure (a.tmps.getD t undef)
   | .cell b t=>do loadVar t (← asAddr (a.tmps.getD b undef))):Sem Value)).run P w' = .ok mg w'∧bD w' p mg xs:=by
 intro rs
 induction rs with
 | nil=>intro xs h;cases h;exact ⟨[],by simp,.nil⟩
 | cons r rs aX=>
  intro xs h;simp only [vb] at h;split at h
  ·rename_i v ar
   split at h
   ·rename_i vs eB
    cases h;obtain ⟨val,U,ad⟩:=QY aP aI hw iW ar;obtain ⟨mg,al,bd⟩:=aX eB;exact ⟨val::mg,by simp only [av7,z2,U,g6,al,ac4],.cons _ _ _ _ ad bd⟩
   ·cases h
  ·cases h
theorem Q0 (aP:bM P Γ) {N:Nat} {B:fx} {ro:Option Nat} {env:Env} {s:ak} {a:Act} {w w':World} {p:bO} (aI:dq N B ro env s a w p)
  (hw:∀ b o v,w.cell? ⟨b,o,none⟩=some v→w'.cell? ⟨b,o,none⟩=some v) (iW:∀ v x,Rel w p v x→Rel w' p v x) {fn:Func} {v:af} (h:nt Γ env s fn.results.toList=some v) :
  ∃ val,(results fn a.tmps).run P w' = .ok val w'∧Rel w' p val v:=by
 unfold nt at h;have key:∀ xs,vb Γ env s fn.results.toList=some xs→∃ mg,(results fn a.tmps).run P w' = .ok (if h:mg.length=1 then mg[0] else .tuple mg.toArray) w'∧bD w' p mg xs:=by
  intro xs ek;obtain ⟨mg,U,ad⟩:=QZ aP aI hw iW ek;refine ⟨mg,?_,ad⟩;unfold results;rw [Array.mapM_eq_mapM_toList];simp only [z2,Sem.run_map];erw [U];simp only [g6,ac4];by_cases aB:mg.length=1
  ·simp [aB]
  ·simp [aB]
 split at h
 ·rename_i fj ar
  cases h;obtain ⟨mg,U,ad⟩:=key _ ar;cases ad with
  | cons u _ us _ hu aK=>cases aK;exact ⟨u,by simpa using U,hu⟩
 ·rename_i vs cp ar
  cases h;obtain ⟨mg,U,ad⟩:=key _ ar;have aB:mg.length≠1:=by
   rw [ad.length];intro aB;obtain ⟨x,ab⟩:=List.length_eq_one_iff.1 aB;exact cp x ab
  rw [dif_neg aB] at U;exact ⟨_,U,.cg _ _ rX⟩
 ·cases h
theorem EH {s:ak} {p:bO}:∀ (b4:List Nat) (w:World),df w p s→(∀ d∈b4,∃ x,w.heap[d]? = some (.deferred x)) →
    c8 w p (hd w b4) p∧df (hd w b4) p s∧(∀ b,b∉b4→(hd w b4).heap[b]? = w.heap[b]?)∧(∀ b o v,w.cell? ⟨b,o,none⟩=some v→(hd w b4).cell? ⟨b,o,none⟩=some v):=by
  intro b4
  induction b4 with
  | nil=>intro w b5 _;exact ⟨.refl w p,b5,fun _ _=>rfl,fun _ _ _ h=>h⟩
  | cons d b4 aX=>
    intro w b5 av;obtain ⟨x,ab⟩:=av d (i5 ..);have az:d<w.heap.size:=(i8.1 ab).1
    let w₁:World:={ w with heap:=w.heap.setIfInBounds d (.deferred none) }
    have n9:w₁.heap[d]? = some (.deferred none):=by simp [w₁,ae5,az]
    have hM:∀ k,k≠d→w₁.heap[k]? = w.heap[k]? := fun k aD=>by
      show (w.heap.setIfInBounds d (.deferred none))[k]? = _;rw [ae5,f0 (fun e=>aD e.symm)]
    have jn:∀ b o,w₁.cell? ⟨b,o,none⟩=w.cell? ⟨b,o,none⟩:=fun b o=>by
      by_cases e:b=d
      · subst e;simp only [World.cell?,n9,ab]
      · exact w0 (hM b e)
    have hle:c8 w p w₁ p:=⟨rfl,rfl,rfl,by simp [w₁],fun _ _ h=>h,fun b o _=>jn b o,fun b y ax=>by
      by_cases e:b=d
      · subst e;simp [World.kk,ab] at ax
      · rw [wZ (hM b e)];exact ax⟩
    have Q1:df w₁ p s:=by
      refine ⟨fun b o an=>?_,fun b o aE=>by simpa [w₁] using b5.lt b o aE⟩;have ah:=b5.obj b o an;have cp:b≠d:=by
        intro e;subst e;cases o with
        | box t c=>obtain ⟨us,g1,-⟩:=ah;rw [ab] at g1;cases g1
        | row t sz n=>obtain ⟨us,g1,-⟩:=ah;rw [ab] at g1;cases g1
        | map es=>obtain ⟨us,c,g1,-⟩:=ah;rw [ab] at g1;cases g1
        | kN es it l c=>obtain ⟨_,_,_,g1,-⟩:=ah;rw [ab] at g1;cases g1
        | tick m=>obtain ⟨_,_,_,g1⟩:=ah;rw [ab] at g1;cases g1
        | loop r env=>have cr:=ah.1;rw [ab] at cr;cases cr
      have c6:=hM b cp;cases o with
      | box t c=>obtain ⟨us,g1,g2,g3⟩:=ah;exact ⟨us,c6.trans g1,g2.mono hle,g3⟩
      | row t sz n=>obtain ⟨cur,g1,g2,g3,g4⟩:=ah;exact ⟨cur,c6.trans g1,g2,g3,g4⟩
      | map es=>obtain ⟨cJ,c,g1,g2,g3⟩:=ah;exact ⟨cJ,c,c6.trans g1,⟨g2.1.mono hle,g2.2.mono hle⟩,g3⟩
      | kN es it l c=>exact ah.pL hle c6 (hM it (ah.yG ab bc))
      | tick m=>obtain ⟨dm,a2,a3,g1⟩:=ah;exact ⟨dm,a2,a3,c6.trans g1⟩
      | loop r env=>exact ⟨c6.trans ah.1,fun t v h=>(ah.2 t v h).mono hle⟩
    obtain ⟨i1,i2,i3,i4⟩:=aX w₁ Q1 (fun cX cc=>by
      by_cases e:cX=d
      · subst e;exact ⟨none,n9⟩
      · obtain ⟨y,ax⟩:=av cX (g7 _ cc);exact ⟨y,(hM cX e).trans ax⟩)
    refine ⟨hle.trans i1,i2,fun b an=>?_,fun b o v ar=>i4 b o v ((jn b o).trans ar)⟩;have U:b≠d:=fun e=>an (e ▸ i5 ..)
    have ad:b∉b4:=fun e=>an (g7 _ e)
    exact (i3 b ad).trans (hM b U)
def Fin (Γ:cj) (rs:List ResultVar) (R:eo→ak→Prop):bX→Env→ak→Prop
 | .normal,env,s | .ret,env,s=>∃ r r' ai,nt Γ env s rs=some r∧aR r r'∧ak.Sub ai s∧R (.ret r') ai
 | .panic v,_,s=>∃ fj ai,aR v fj∧ak.Sub ai s∧R (.panic fj) ai
 | .exit _,_,_=>False
theorem Q2 {w:World} {p:bO}:∀ (k:Nat) (args:List af) (vs pre:List Value),pre.length=k→bD w p vs args→∀ t v,(qU k args).get? t=some v→∃ u,(pre++vs)[t]? = some u∧Rel w p u v:=by
 intro k args
 induction args generalizing k with
 | nil=>intro vs pre _ _ t v h;simp [qU,Env.get?] at h
 | cons x xs aX=>
  intro vs pre aD aC t v h;cases aC with
  | cons u _ us _ hu aK=>
  simp only [qU,Env.get?] at h;split at h
  ·rename_i he
   have:=ab' he;subst this;cases h;exact ⟨u,by rw [ad6 ag];simp [aD],hu⟩
  ·obtain ⟨jC,U,ad⟩:=aX (k+1) us (pre++[u]) (by simp [aD]) aK t v h
   exact ⟨jC,by simpa using U,ad⟩
theorem Kept.sub {s ai eA:ak} {w w':World} {p bg:bO} (h:Kept s ai w p w' bg) (ao:ak.Sub eA ai):Kept s eA w p w' bg :=
 ⟨h.heap,fun b an aA=>ao.none (h.kl b an aA),h.kM⟩
theorem gX.w8 (aP:bM P Γ) {f:FuncId} {fn:Func} {c:Code} {args:List af} {s:ak} {R:eo→ak→Prop} (aF:sm P f) (a1:P.funcs[f]? = some fn) (an:fn.body=some c)
  (aY:al9 args.length fn.ntmps=true) (h:ae P fn.ntmps c (Fin Γ fn.results.toList R) (qU 0 args) s):gX P f args s R:=by
 refine ⟨aF,fun w p vs b5 eB=>PH a1 an fun b qQ eU=>?_⟩;have hle:=al8 aY;have aB:=eB.length;have b':(vs.toArray++ai7 (fn.ntmps-vs.toArray.size) undef).size=fn.ntmps:=by simp;omega
 have aI:dq fn.ntmps (w.heap.size,[]) b.roundOf (qU 0 args) s { tmps:=vs.toArray++ai7 (fn.ntmps-vs.toArray.size) undef,defers:=[] } w p:=by
  refine ⟨b',fun t v ar=>?_,b5,⟨[],rfl,by simp,by simp⟩,fun l aB=>(by rw [qQ] at aB;cases aB),i0 _⟩;obtain ⟨u,hu,aC⟩:=Q2 0 args vs [] rfl eB t v ar;simp only [d7] at hu;have az:=(ac1.1 hu).1;have:(vs.toArray++ai7 (fn.ntmps-vs.toArray.size) undef).getD t undef=u:=by
   rw [ad9,aq9 (by simpa using az)];simp [hu]
  rw [this];exact aC
 refine lG (h b (w.heap.size,[]) _ w p eU aI) ?_;rintro e c3 w' ⟨x,eN,ai,bg,ab,bp,hE,y5,aD⟩;obtain ⟨b4,sn,e2,e5⟩:=hE.defs;rw [List.append_nil] at sn;obtain ⟨b7,bR,eE,ko⟩:=EH b4 w' hE.wf (fun d av=>⟨_,(e5 d av).2.1⟩);have bm:Kept s ai w p (hd w' b4) bg:=⟨fun aT dF aA=>(eE aT (fun hm=>by have:=(e5 aT hm).1;omega)).trans (aD.heap aT dF aA),aD.kl,aD.kM⟩;have bY:c8 w p (hd w' b4) bg:=y5.trans b7;have fin:(∃ r r' eA,nt Γ eN ai fn.results.toList=some r∧aR r r'∧ak.Sub eA ai∧R (.ret r') eA) →
   ∃ b4,c3.defers=marksOf b4∧b4.Nodup∧(∀ d∈b4,w'.heap[d]? = some (.deferred (some [])))∧∃ v,(results fn c3.tmps).run P (hd w' b4) = .ok v (hd w' b4)∧u7 s w p R (.returned v) (hd w' b4):=by
  rintro ⟨r,r',eA,aC,w9,hC,dQ⟩;obtain ⟨val,cK,eG⟩:=Q0 aP hE ko (fun v x h=>h.mono b7) aC;exact ⟨b4,sn,e2,fun d av=>(e5 d av).2.1,val,cK,.ret r',eA,bg,w9 _ _ _ eG,dQ,bY,bm.sub hC,bR.sub hC⟩
 cases ab with
 | normal=>exact fin bp
 | ret=>exact fin bp
 | exit id=>exact bp.elim
 | panic v x dr km ar=>
  obtain ⟨fj,eA,w9,hC,dQ⟩:=bp;exact ⟨b4,sn,e2,fun d av=>(e5 d av).2.1,.panic fj,eA,bg,⟨v,km,w9 _ _ _ (ar.mono b7)⟩,dQ,bY,bm.sub hC,bR.sub hC⟩
end
def aa (P:Program) (N:Nat) (ops:Array Oper) (l:List Oper) (Q:bX→Env→ak→Prop) (env:Env) (s:ak):Prop:=
 ∀ k,(∀ j x,l[j]? = some x→ops[k+j]? = some x)→fp P N ops (av5 k l.length) Q env s
section
variable {P:Program} {Γ:cj} {N:Nat} {ops:Array Oper} {Q:bX→Env→ak→Prop} {env:Env} {s:ak} {l:List Oper} {o:Oper} {d:Nat}
theorem ae.cA {id:Nat} {l:List Oper} (h:aa P N l.toArray l Q env s):ae P N (.region id l.toArray false) Q env s:=by
 refine ae.region ?_;have:=h 0 bc;rw [List.range_eq_range'];simpa using this
theorem aa.nil (h:Q .normal env s):aa P N ops [] Q env s:=fun _ _=>fp.nil h
theorem aa.cons (h:∀ k,ops[k]? = some o→aa P N ops l Q env s∨True→(∀ j x,l[j]? = some x→ops[k+1+j]? = some x)→fp P N ops (k::av5 (k+1) l.length) Q env s):aa P N ops (o::l) Q env s:=by
 intro k aD;have bo:ops[k]? = some o:=aD 0 o C;have aK:∀ j x,l[j]? = some x→ops[k+1+j]? = some x:=fun j x ab=>by have:=aD (j+1) x (by simpa using ab);simpa [ak4,ao7 1 j] using this
 rw [i7,au9];exact h k bo (.inr trivial) aK
theorem aa.op {K X:af→ak→Prop} (au:guardOf ops env o=some true) (av:o.dst=some d) (aY:i9 d N=true) (h:aW P N o env s K X)
  (aD:∀ x ai,K x ai→aa P N ops l Q ((d,x)::env) ai) (ab:∀ x ai,X x ai→Q (.panic x) env ai):aa P N ops (o::l) Q env s:=
 aa.cons fun k bo _ aK=>fp.op bo au av aY h (fun x ai bm=>aD x ai bm (k+1) aK) ab
theorem aa.uQ {K X:af→ak→Prop} (au:guardOf ops env o=some true) (av:o.dst=none) (h:aW P N o env s K X)
  (aD:∀ x ai,K x ai→aa P N ops l Q env ai) (ab:∀ x ai,X x ai→Q (.panic x) env ai):aa P N ops (o::l) Q env s:=
 aa.cons fun k bo _ aK=>fp.uQ bo au av h (fun x ai bm=>aD x ai bm (k+1) aK) ab
theorem aa.skip (au:guardOf ops env o=some false) (av:o.dst=some d) (aY:i9 d N=true) (h:aa P N ops l Q ((d,.cg [])::env) s):aa P N ops (o::l) Q env s:=
 aa.cons fun k bo _ aK=>fp.skip bo au av aY (h (k+1) aK)
theorem aa.step (aP:bM P Γ) {v:af} (au:guardOf ops env o=some true) (av:o.dst=some d) (aY:i9 d N=true) (ar:oS Γ o env=some v) (h:aa P N ops l Q ((d,v)::env) s) :
  aa P N ops (o::l) Q env s:=
 aa.op au av aY (aW.oS aP ar) (fun x ai ⟨U,ad⟩=>by subst U;subst ad;exact h) (fun _ _ h=>h.elim)
theorem aa.pure (aP:bM P Γ) {v:af} (au:guardOf ops env o=some true) (av:o.dst=some d) (aY:i9 d N=true) (ar:lb Γ o env v) (h:aa P N ops l Q ((d,v)::env) s) :
  aa P N ops (o::l) Q env s:=
 aa.op au av aY (aW.pure aP ar) (fun x ai ⟨U,ad⟩=>by subst U;subst ad;exact h) (fun _ _ h=>h.elim)
theorem aa.hV (aP:bM P Γ) {v:af} (au:guardOf ops env o=some true) (av:o.dst=some d) (aY:i9 d N=true) (ar:u' Γ o env=some v) (h:aa P N ops l Q ((d,v)::env) s) :
  aa P N ops (o::l) Q env s:=aa.pure aP au av aY (.x ar) h
theorem aa.call {f:FuncId} {as:Array Operand} {c0:Array TypeId} {xs:List af} {R:eo→ak→Prop} (au:guardOf ops env o=some true) (av:o.dst=some d) (aY:i9 d N=true)
  (bV:o.op = .call { callee := .value (.func f),args:=as,argTypes:=c0 }) (a8:fy env as.toList=some xs) (h:gX P f xs s R)
  (aD:∀ x ai,R (.ret x) ai→aa P N ops l Q ((d,x)::env) ai) (ab:∀ x ai,R (.panic x) ai→Q (.panic x) env ai):aa P N ops (o::l) Q env s:=
 aa.op au av aY (aW.call bV (fv := .func f [] []) C a8 (hG.fa gT)) aD ab
theorem aa.Jl {f:FuncId} {as:Array Operand} {c0:Array TypeId} {xs:List af} {v:af} (au:guardOf ops env o=some true) (av:o.dst=some d) (aY:i9 d N=true)
  (bV:o.op = .call { callee := .value (.func f),args:=as,argTypes:=c0 }) (a8:fy env as.toList=some xs) (h:gX P f xs s (fun out ai=>out = .ret v∧ai=s))
  (aD:aa P N ops l Q ((d,v)::env) s):aa P N ops (o::l) Q env s:=
 aa.call au av aY bV a8 h (fun x ai ⟨U,ad⟩=>by cases U;subst ad;exact aD) (fun x ai ⟨U,_⟩=>by cases U)
theorem aa.ED {g:Operand} {fv:af} {as:Array Operand} {c0:Array TypeId} {xs:List af} {R:eo→ak→Prop} (au:guardOf ops env o=some true) (av:o.dst=some d) (aY:i9 d N=true)
  (bV:o.op = .call { callee := .value g,args:=as,argTypes:=c0 }) (ar:aJ env g=some fv) (a8:fy env as.toList=some xs) (h:hG P fv xs s R)
  (aD:∀ x ai,R (.ret x) ai→aa P N ops l Q ((d,x)::env) ai) (ab:∀ x ai,R (.panic x) ai→Q (.panic x) env ai):aa P N ops (o::l) Q env s:=
 aa.op au av aY (aW.call bV ar a8 h) aD ab
theorem aa.idx (aP:bM P Γ) {t e:TypeId} {x y:Operand} {it aG:bL} {sz:Nat} {xs:List af} {own:bN} {k:IntKind} {i:Int} {v:af} {cs:List af} (j:Nat) (au:guardOf ops env o=some true) (av:o.dst=some d)
  (aY:i9 d N=true) (ah:o.op = .indexAddr t x y) (aK:Γ.get? t=some it) (br:it.bE = .ay e) (bH:Γ.get? e=some aG) (ab:aJ env x=some (.ay sz xs own)) (b':sz=aG.size) (ax:aJ env y=some (.int k i))
  (eF:i=(j:Int)) (aO:xs[j]? = some v) (aF:cellsOf v=some cs) (h:aa P N ops l Q ((d,.bs cs 0)::env) s):aa P N ops (o::l) Q env s:=
 aa.pure aP au av aY (.idx j ah aK br bH ab b' ax eF aO aF) h
theorem aa.y3 (aP:bM P Γ) {t:TypeId} {x y:Operand} {it:bL} {cs:List UInt8} {k:IntKind} {i:Int} {b:UInt8} (j:Nat) (au:guardOf ops env o=some true) (av:o.dst=some d)
  (aY:i9 d N=true) (ah:o.op = .index t x y) (aK:Γ.get? t=some it) (br:it.bE = .str) (ab:aJ env x=some (.str cs)) (ax:aJ env y=some (.int k i))
  (eF:i=(j:Int)) (aO:cs[j]? = some b) (h:aa P N ops l Q ((d,.int .u8 b.toNat)::env) s):aa P N ops (o::l) Q env s:=
 aa.pure aP au av aY (.y3 j ah aK br ab ax eF aO) h
theorem aa.cat (aP:bM P Γ) {t yt:TypeId} {x y:Operand} {u v:List UInt8} (au:guardOf ops env o=some true) (av:o.dst=some d) (aY:i9 d N=true) (ah:o.op = .binOp .add t x y yt)
  (ab:aJ env x=some (.str u)) (ax:aJ env y=some (.str v)) (aB:u.length+v.length≤9223372036854775807) (h:aa P N ops l Q ((d,.str (u++v))::env) s):aa P N ops (o::l) Q env s:=
 aa.pure aP au av aY (.cat ah ab ax aB) h
theorem aa.toStr (aP:bM P Γ) {jA y6 e:TypeId} {x:Operand} {is id aG:bL} {sz:Nat} {u:List UInt8} {own:bN} (au:guardOf ops env o=some true) (av:o.dst=some d) (aY:i9 d N=true) (ah:o.op = .convert jA y6 x)
  (ao:Γ.get? jA=some is) (EI:Γ.get? y6=some id) (j3:is.bE = .ay e) (mX:id.bE = .str) (he:Γ.get? e=some aG) (ob:aG.bE = .int .u8) (ab:aJ env x=some (.ay sz (nr u) own))
  (h:aa P N ops l Q ((d,.str u)::env) s):aa P N ops (o::l) Q env s:=aa.pure aP au av aY (.toStr ah ao EI j3 mX he ob ab) h
theorem aa.BJ (aP:bM P Γ) {jA y6 e:TypeId} {x:Operand} {is id aG:bL} {u:List UInt8} (au:guardOf ops env o=some true) (av:o.dst=some d) (aY:i9 d N=true) (ah:o.op = .convert jA y6 x)
  (ao:Γ.get? jA=some is) (EI:Γ.get? y6=some id) (j3:is.bE = .str) (mX:id.bE = .ay e) (he:Γ.get? e=some aG) (ob:aG.bE = .int .u8) (ab:aJ env x=some (.str u)) (EG:u.length≤9223372036854775807)
  (h:aa P N ops l Q ((d,.ay 1 (nr u) .aZ)::env) s):aa P N ops (o::l) Q env s:=aa.pure aP au av aY (.BJ ah ao EI j3 mX he ob ab EG) h
theorem aa.slice (aP:bM P Γ) {t e:TypeId} {x:Operand} {gD aS iZ:Option Operand} {it aG:bL} {sz:Nat} {xs:List af} {own c5:bN} (a b:Nat) (au:guardOf ops env o=some true) (av:o.dst=some d)
  (aY:i9 d N=true) (ah:o.op = .slice t x gD aS iZ)
  (aK:Γ.get? t=some it) (br:it.bE = .ay e) (bH:Γ.get? e=some aG) (ab:aJ env x=some (.ay sz xs own)) (b':xs=[]∨sz=aG.size)
  (iz:(gD=none∧a=0)∨∃ y k,gD=some y∧aJ env y=some (.int k (a:Int))) (pT:(aS=none∧iZ=none∧b=xs.length)∨∃ y k,aS=some y∧aJ env y=some (.int k (b:Int)))
  (mV:(iZ=none∧c5 = .aZ)∨(∃ y k,iZ=some y∧aJ env y=some (.int k (b:Int))∧c5 = .clip)) (aB:a≤b) (c6:b≤xs.length) (h:aa P N ops l Q ((d,.ay sz ((xs.take b).drop a) c5)::env) s):aa P N ops (o::l) Q env s:=
 aa.pure aP au av aY (.slice a b ah aK br bH ab b' iz pT mV aB c6) h
theorem aa.freeze (t b:Nat) {T:TypeId} {cs:List af} (aK:env.get? t=some (.ptr b 0)) (ao:s b=some (.box T cs)) (h:aa P N ops l Q ((t,.bs cs 0)::env) (s.del b)):aa P N ops l Q env s:=
 fun k aD=>fp.freeze t b aK ao (h k aD)
theorem b0 {next:Env→ak→Prop} (h:next env s):bX.andThen next Q .normal env s:=h
end
def pV (ops:Array Oper) (i j:Nat):Prop:=∃ o e,ops[i]? = some o∧e∈o.after∧Region.binds .any e=true∧e.on=j
inductive kQ (ops:Array Oper):Nat→Nat→Prop
 | dep {i j:Nat} (h:pV ops i j):kQ ops i j
 | trans {i j k:Nat} (h:pV ops i j) (t:kQ ops j k):kQ ops i k
def vc (ops:Array Oper) (D:Nat→Bool):Prop:=∀ i j,D i=true→pV ops i j→D j=true
theorem vc.pW {ops:Array Oper} {D:Nat→Bool} (h:vc ops D) {i j:Nat} (aS:D i=true) (a8:kQ ops i j):D j=true:=by
 induction a8 with
 | dep av=>exact h _ _ aS av
 | trans av _ aX=>exact aX (h _ _ aS av)
def dR (D:Nat→Bool) (i:Nat):Nat→Bool:=fun j=>if j=i then true else D j
theorem mh (D:Nat→Bool) (i:Nat):dR D i i=true:=by simp [dR]
theorem jD (D:Nat→Bool) {i j:Nat} (h:j≠i):dR D i j=D j:=by simp [dR,h]
theorem vd {D:Nat→Bool} {i j:Nat} (h:D j=true):dR D i j=true:=by unfold dR;split<;>simp_all
def gZ (ops:Array Oper) (D:Nat→Bool) (i:Nat):Prop:=i<ops.size∧D i=false∧∀ j,pV ops i j→D j=true
theorem vc.dR {ops:Array Oper} {D:Nat→Bool} (h:vc ops D) {i:Nat} (aC:gZ ops D i):vc ops (dR D i):=by
 intro a b a8 av;by_cases e:a=i
 ·subst e;exact vd (aC.2.2 b av)
 ·rw [jD _ e] at a8;exact vd (h a b a8 av)
def looks (ops:Array Oper) (o:Oper):List Tmp:=
  (match o.guard with
   | some (g,_)=>match (ops[g]?).bind (·.dst) with
     | some d=>[d]
     | none=>[]
   | none=>[])++o.op.operands.toList.filterMap fun | .tmp t=>some t|_=>none
def ij (env:Env):List Tmp→Env
  | []=>[]
  | t::fU=>match env.get? t with
    | some v=>(t,v)::ij env fU
    | none=>ij env fU
abbrev bU (l:List Oper) (env:Env) (o:Oper):Env:=ij env (looks l.toArray o)
abbrev cY (l:List Oper) (env:Env) (o:Oper):Prop:=guardOf l.toArray (ij env (looks l.toArray o)) o=some true
theorem Jm {env:Env} {fU:List Tmp} {t:Tmp} {v:af} (h:(ij env fU).get? t=some v):env.get? t=some v∧t∈fU:=by
 induction fU with
 | nil=>simp [ij,Env.get?] at h
 | cons u fU aX=>
  simp only [ij] at h;split at h
  ·rename_i x ab
   simp only [Env.get?] at h;split at h
   ·rename_i he
    have:=ab' he;subst this;cases h;exact ⟨ab,i5 ..⟩
   ·exact ⟨(aX h).1,g7 _ (aX h).2⟩
  ·exact ⟨(aX h).1,g7 _ (aX h).2⟩
def Still (J:ak→Prop) (P:Program) (Γ:cj) (N:Nat) (ops:Array Oper) (o:Oper) (E:Env) (v:af):Prop:=
 (guardOf ops E o=some true∧lb Γ o E v)∨(guardOf ops E o=some false∧v = .cg []) ∨
  (guardOf ops E o=some true∧∀ s,J s→aW P N o E s (fun x ai=>x=v∧ai=s) (fun _ _=>False))
structure tu (ops:Array Oper):Prop where
 uniq:∀ (i j:Nat) (x y:Oper) (d:Tmp),ops[i]? = some x→ops[j]? = some y→x.dst=some d→y.dst=some d→i=j
 apart:∀ (i j:Nat) (x y:Oper) (d:Tmp),i≠j→ops[i]? = some x→ops[j]? = some y→x.dst=some d→d∈looks ops y→kQ ops i j∨kQ ops j i
 back:∀ i j,pV ops i j→j<i
 own:∀ (i:Nat) (x:Oper) (d:Tmp),ops[i]? = some x→x.dst=some d→d∉looks ops x
inductive oc (P:Program) (Γ:cj) (N:Nat) (ops:Array Oper) (Q:bX→Env→ak→Prop):(ak→Prop)→(Nat→Bool)→Env→ak→Prop
 | congr {J:ak→Prop} {D:Nat→Bool} {env:Env} {s:ak} (e:Env) (he:∀ t,e.get? t=env.get? t) (h:oc P Γ N ops Q J D e s):oc P Γ N ops Q J D env s
 | fin {J:ak→Prop} {D:Nat→Bool} {env:Env} {s:ak} (e5:∀ i,i<ops.size→D i=true) (h:Q .normal env s):oc P Γ N ops Q J D env s
 | still {J:ak→Prop} {D:Nat→Bool} {env:Env} {s:ak} (cZ:J s) (i:Nat) (o:Oper) (d:Tmp) (v:af) (aC:gZ ops D i) (ah:ops[i]? = some o) (av:o.dst=some d) (aY:d<N)
   (ar:Still J P Γ N ops o (ij env (looks ops o)) v) (h:oc P Γ N ops Q J (dR D i) ((d,v)::env) s):oc P Γ N ops Q J D env s
 | split {J:ak→Prop} {D:Nat→Bool} {env:Env} {s:ak} (K X:Nat→af→ak→Prop) (ve:Nat→af→ak→ak→Prop) (cp:∃ i,i<ops.size∧D i=false)
   (au:∀ i o,gZ ops D i→ops[i]? = some o→guardOf ops (ij env (looks ops o)) o=some true∧aW P N o (ij env (looks ops o)) s (K i) (X i)∧∀ d,o.dst=some d→d<N)
   (aO:∀ i o,gZ ops D i→ops[i]? = some o→∀ x ai,K i x ai→(ve i x ai=J∧J ai)∨∀ j,j<ops.size→D j=true→j≠i→kQ ops i j)
   (aD:∀ i o d,gZ ops D i→ops[i]? = some o→o.dst=some d→∀ x ai,K i x ai→oc P Γ N ops Q (ve i x ai) (dR D i) ((d,x)::env) ai)
   (kR:∀ i o,gZ ops D i→ops[i]? = some o→o.dst=none→∀ x ai,K i x ai→oc P Γ N ops Q (ve i x ai) (dR D i) env ai)
   (ab:∀ i o,gZ ops D i→ops[i]? = some o→∀ x ai,X i x ai→Q (.panic x) [] ai):oc P Γ N ops Q J D env s
abbrev bh (J:ak→Prop) (P:Program) (Γ:cj) (N:Nat) (ops:Array Oper) (Q:bX→Env→ak→Prop) (D:Nat→Bool) (env:Env) (s:ak):Prop:=oc P Γ N ops Q J D env s
section
variable {J:ak→Prop} {P:Program} {Γ:cj} {N:Nat} {ops:Array Oper} {Q:bX→Env→ak→Prop} {D:Nat→Bool} {env:Env} {s:ak}
theorem bh.congr (e:Env) (he:∀ t,e.get? t=env.get? t) (h:bh J P Γ N ops Q D e s):bh J P Γ N ops Q D env s:=oc.congr e he h
theorem bh.fin (e5:∀ i,i<ops.size→D i=true) (h:Q .normal env s):bh J P Γ N ops Q D env s:=oc.fin e5 h
theorem bh.still (cZ:J s) (i:Nat) (o:Oper) (d:Tmp) (v:af) (aC:gZ ops D i) (ah:ops[i]? = some o) (av:o.dst=some d) (aY:d<N)
  (ar:Still J P Γ N ops o (ij env (looks ops o)) v) (h:bh J P Γ N ops Q (dR D i) ((d,v)::env) s):bh J P Γ N ops Q D env s:=oc.still cZ i o d v aC ah av aY ar h
theorem bh.split (K X:Nat→af→ak→Prop) (cp:∃ i,i<ops.size∧D i=false)
  (au:∀ i o,gZ ops D i→ops[i]? = some o→guardOf ops (ij env (looks ops o)) o=some true∧aW P N o (ij env (looks ops o)) s (K i) (X i)∧∀ d,o.dst=some d→d<N)
  (aO:∀ i o,gZ ops D i→ops[i]? = some o→∀ x ai,K i x ai→J ai∨∀ j,j<ops.size→j≠i→kQ ops i j)
  (aD:∀ i o d,gZ ops D i→ops[i]? = some o→o.dst=some d→∀ x ai,K i x ai→bh J P Γ N ops Q (dR D i) ((d,x)::env) ai)
  (kR:∀ i o,gZ ops D i→ops[i]? = some o→o.dst=none→∀ x ai,K i x ai→bh J P Γ N ops Q (dR D i) env ai)
  (ab:∀ i o,gZ ops D i→ops[i]? = some o→∀ x ai,X i x ai→Q (.panic x) [] ai):bh J P Γ N ops Q D env s:=
 oc.split K X (fun _ _ _=>J) cp au (fun i o U ad x ai al=>(aO i o U ad x ai al).imp (fun h=>⟨rfl,h⟩) (fun h j bd _ bB=>h j bd bB)) aD kR ab
end
def mY:ak→Prop:=fun _=>True
abbrev ba (P:Program) (Γ:cj) (N:Nat) (ops:Array Oper) (Q:bX→Env→ak→Prop) (D:Nat→Bool) (env:Env) (s:ak):Prop:=bh mY P Γ N ops Q D env s
structure kq (J:ak→Prop) (P:Program) (Γ:cj) (N:Nat) (B:fx) (ro:Option Nat) (ops:Array Oper) (D L:Nat→Bool) (V:Nat→af) (E:Nat→Env) (env:Env) (s:ak) (a:Act) (w:World) (p:bO):Prop where
 sub:∀ i,L i=true→D i=true
 qV:vc ops D
 pX:vc ops L
 st:dq N B ro [] s a w p
 known:∀ t v,env.get? t=some v→(∃ k o,D k=true∧L k=false∧ops[k]? = some o∧o.dst=some t)∨Rel w p (a.tmps.getD t undef) v
 vf:∀ i o,D i=true→L i=false→ops[i]? = some o→∃ d,o.dst=some d∧d<N∧env.get? d=some (V i)∧Still J P Γ N ops o (E i) (V i) ∧
  (∀ t x,(E i).get? t=some x→t∈looks ops o∧(∀ k u,ops[k]? = some u→u.dst=some t→kQ ops i k→L k=false→x=V k) ∧
   ((∀ k u,ops[k]? = some u→u.dst=some t→kQ ops i k→L k=true)→Rel w p (a.tmps.getD t undef) x))
 bound:∀ i,D i=true→i<ops.size
 inv:(∀ i,D i=true→L i=true)∨J s
theorem dq.restrict {N:Nat} {B:fx} {ro:Option Nat} {env:Env} {s:ak} {a:Act} {w:World} {p:bO} (h:dq N B ro env s a w p) (e:Env) (he:∀ t v,e.get? t=some v→Rel w p (a.tmps.getD t undef) v) :
  dq N B ro e s a w p:=⟨h.size,he,h.wf,h.defs,h.round,h.base⟩
section
variable {J:ak→Prop} {P:Program} {Γ:cj} {N:Nat} {ops:Array Oper} {Q:bX→Env→ak→Prop}
theorem kq.ahead (du:tu ops) {B:fx} {ro:Option Nat} {D L:Nat→Bool} {V:Nat→af} {E:Nat→Env} {env:Env} {s:ak} {a:Act} {w:World} {p:bO}
  (h:kq J P Γ N B ro ops D L V E env s a w p) {i:Nat} {o:Oper} {d:Tmp} {v:af} (aC:gZ ops D i) (ah:ops[i]? = some o) (av:o.dst=some d) (aY:d<N)
  (cZ:J s) (ar:Still J P Γ N ops o (ij env (looks ops o)) v) :
  kq J P Γ N B ro ops (dR D i) L (fun j=>if j=i then v else V j) (fun j=>if j=i then ij env (looks ops o) else E j) ((d,v)::env) s a w p:=by
 have Q3:L i=false:=by
  cases aB:L i with
  | false=>rfl
  | true=>have:=h.sub i aB;rw [aC.2.1] at this;cases this
 refine ⟨fun j aO=>vd (h.sub j aO),h.qV.dR aC,h.pX,h.st,fun t x ab=>?_,fun j u aO mi hu=>?_,fun j aO=>?_,.inr cZ⟩
 ·simp only [Env.get?] at ab
  split at ab
  ·rename_i he
   have:=ab' he;subst this;exact .inl ⟨i,o,mh _ _,Q3,ah,av⟩
  ·rcases h.known t x ab with ⟨k,u,U,ad,al,bd⟩|eG
   ·exact .inl ⟨k,u,vd U,ad,al,bd⟩
   ·exact .inr eG
 ·by_cases e:j=i
  ·subst e
   rw [ah] at hu;cases hu;refine ⟨d,av,aY,by simp [Env.get?],?_,?_⟩
   ·simpa using ar
   ·intro t x ab
    simp only [ae2] at ab;obtain ⟨ja,pY⟩:=Jm ab;refine ⟨pY,fun k u aD kS hW od=>?_,fun gE=>?_⟩
    ·have cp:k≠j:=fun e'=>by
      subst e';rw [ah] at aD;cases aD;rw [av] at kS;cases kS;exact du.own _ _ _ ah av pY
     rw [f0 cp];have Q4:D k=true:=by
      have:=(h.qV.dR aC).pW (mh D j) hW;rwa [jD _ cp] at this
     obtain ⟨cX,b7,bR,eE,-⟩:=h.vf k u Q4 od aD;rw [kS] at b7;cases b7;rw [ja] at eE;cases eE;rfl
    ·rcases h.known t x ja with ⟨k,u,U,ad,al,bd⟩|eG
     ·have cp:k≠j:=fun e'=>by subst e';rw [aC.2.1] at U;cases U
      rcases du.apart k j u o t cp al ah bd pY with hW|hW
      ·have:=h.qV.pW U hW;rw [aC.2.1] at this;cases this
      ·have:=gE k u al bd hW;rw [ad] at this;cases this
     ·exact eG
  ·rw [jD _ e] at aO
   obtain ⟨cX,b7,bR,eE,ko,so⟩:=h.vf j u aO mi hu;have mX:d≠cX:=fun e'=>by subst e';exact e (du.uniq j i u o d hu ah b7 av)
   refine ⟨cX,b7,bR,?_,?_,?_⟩
   ·simp only [Env.get?,f0 e]
    have:ad0 d cX=false:=by
     cases an:ad0 d cX with
     | false=>rfl
     | true=>exact absurd (ab' an) mX
    simp [this,eE]
   ·simpa [e] using ko
   ·intro t x ab
    simp only [f0 e] at ab;obtain ⟨f1,f2,f3⟩:=so t x ab;refine ⟨f1,fun k jC aD kS hW od=>?_,f3⟩;have cp:k≠i:=fun e'=>by
     subst e';have:=h.qV.pW aO hW;rw [aC.2.1] at this;cases this
    rw [f0 cp];exact f2 k jC aD kS hW od
 ·by_cases e:j=i
  ·subst e;exact aC.1
  ·rw [jD _ e] at aO;exact h.bound j aO
theorem kq.Q5 (du:tu ops) {B:fx} {ro:Option Nat} {D L:Nat→Bool} {V:Nat→af} {E:Nat→Env} {env:Env} {s:ak} {a:Act} {w w':World} {p bg:bO}
  (h:kq J P Γ N B ro ops D L V E env s a w p) {i:Nat} {o:Oper} {d:Tmp} {val:Value} (aC:gZ ops L i) (e5:D i=true) (ah:ops[i]? = some o) (av:o.dst=some d)
  (hle:c8 w p w' bg) (aD:Kept s s w p w' bg) (b5:df w' bg s) (oa:Rel w' bg val (V i)):kq J P Γ N B ro ops D (dR L i) V E env s (a.put (some d) val) w' bg:=by
 obtain ⟨cX,cc,mN,BK,Jn,eV⟩:=h.vf i o e5 aC.2.1 ah;rw [av] at cc;cases cc;have hE:=h.st.step hle aD b5;have y7:=hE.put mN oa;have jP:∀ t,t≠d→(a.put (some d) val).tmps.getD t undef=a.tmps.getD t undef:=fun t aK=>by
  simp only [Act.put,ad9,ae5,f0 (fun e:d=t=>aK e.symm)]
 have BL:(a.put (some d) val).tmps.getD d undef=val:=by
  have:d<a.tmps.size:=by rw [h.st.size];exact mN
  simp [Act.put,ad9,ae5,this]
 refine ⟨fun j aO=>?_,h.qV,h.pX.dR aC,y7.restrict [] (by simp [Env.get?]),fun t x ab=>?_,fun j u aO mi hu=>?_,h.bound,h.inv.imp (fun q j aO=>vd (q j aO)) id⟩
 ·by_cases e:j=i
  ·subst e;exact e5
  ·rw [jD _ e] at aO;exact h.sub j aO
 ·by_cases e:t=d
  ·subst e
   rw [BK] at ab;cases ab;exact .inr (by rw [BL];exact oa)
  ·rcases h.known t x ab with ⟨k,u,U,ad,al,bd⟩|eG
   ·have cp:k≠i:=fun e'=>by subst e';rw [ah] at al;cases al;rw [av] at bd;cases bd;exact e C
    exact .inl ⟨k,u,U,by rw [jD _ cp];exact ad,al,bd⟩
   ·exact .inr (by rw [jP t e];exact eG.mono hle)
 ·have cp:j≠i:=fun e=>by subst e;rw [mh] at mi;cases mi
  rw [jD _ cp] at mi;obtain ⟨cX,b7,bR,eE,ko,so⟩:=h.vf j u aO mi hu;refine ⟨cX,b7,bR,eE,ko,fun t x ab=>?_⟩;obtain ⟨f1,f2,f3⟩:=so t x ab;refine ⟨f1,fun k jC eu kS hW od=>?_,fun gE=>?_⟩
  ·have sq:k≠i:=fun e=>by subst e;rw [mh] at od;cases od
   rw [jD _ sq] at od;exact f2 k jC eu kS hW od
  ·by_cases e:t=d
   ·subst e
    rcases du.apart i j o u t (Ne.symm cp) ah hu av f1 with hW|hW
    ·have:=h.pX.dR aC |>.pW (mh L i) hW
     rw [jD _ cp] at this;rw [mi] at this;cases this
    ·have:=f2 i o ah av hW aC.2.1
     subst this;rw [BL];exact oa
   ·rw [jP t e]
    refine (f3 fun k jC eu kS hW=>?_).mono hle;have sq:k≠i:=fun e'=>by subst e';rw [ah] at eu;cases eu;rw [av] at kS;cases kS;exact e C
    have:=gE k jC eu kS hW;rwa [jD _ sq] at this
theorem kq.ready (du:tu ops) {B:fx} {ro:Option Nat} {D L:Nat→Bool} {V:Nat→af} {E:Nat→Env} {env:Env} {s:ak} {a:Act} {w:World} {p:bO}
  (h:kq J P Γ N B ro ops D L V E env s a w p) {i:Nat} {o:Oper} (aC:gZ ops L i) (e5:D i=false) (ah:ops[i]? = some o) :
  gZ ops D i∧dq N B ro (ij env (looks ops o)) s a w p:=by
 refine ⟨⟨aC.1,e5,fun j aO=>h.sub j (aC.2.2 j aO)⟩,h.st.restrict _ fun t v ar=>?_⟩;obtain ⟨U,ad⟩:=Jm ar;rcases h.known t v U with ⟨k,u,g1,g2,g3,g4⟩|eG
 ·have cp:k≠i:=fun e=>by subst e;rw [e5] at g1;cases g1
  rcases du.apart k i u o t cp g3 ah g4 ad with hW|hW
  ·have:=h.qV.pW g1 hW;rw [e5] at this;cases this
  ·have:=(h.pX.dR aC).pW (mh L i) hW
   rw [jD _ cp,g2] at this;cases this
 ·exact eG
theorem kq.both (du:tu ops) {B:fx} {ro:Option Nat} {D L:Nat→Bool} {V:Nat→af} {E:Nat→Env} {env:Env} {s ai:ak} {a:Act} {w w':World} {p bg:bO}
  (h:kq J P Γ N B ro ops D L V E env s a w p) {i:Nat} {o:Oper} {val:Value} {x:af} (aC:gZ ops L i) (o4:gZ ops D i) (ah:ops[i]? = some o) (mN:∀ d,o.dst=some d→d<N)
  (hle:c8 w p w' bg) (aD:Kept s ai w p w' bg) (b5:df w' bg ai) (oa:Rel w' bg val x) (cZ:J ai∨∀ j,j<ops.size→D j=true→j≠i→kQ ops i j) :
  kq J P Γ N B ro ops (dR D i) (dR L i) V E (match o.dst with|some d=>(d,x)::env|none=>env) ai (a.put o.dst val) w' bg:=by
 have hE:=h.st.step hle aD b5;have jP:∀ t,o.dst≠some t→(a.put o.dst val).tmps.getD t undef=a.tmps.getD t undef:=fun t aK=>by
  cases av:o.dst with
  | none=>rfl
  | some d=>
   have:d≠t:=fun e=>aK (by rw [av,e])
   simp only [Act.put,ad9,ae5,f0 this]
 have BL:∀ d,o.dst=some d→(a.put o.dst val).tmps.getD d undef=val:=fun d av=>by
  have:d<a.tmps.size:=by rw [h.st.size];exact mN d av
  simp [av,Act.put,ad9,ae5,this]
 have y7:dq N B ro [] ai (a.put o.dst val) w' bg:=by
  cases av:o.dst with
  | none=>exact hE
  | some d=>exact (hE.put (mN d av) oa).restrict [] (by simp [Env.get?])
 refine ⟨fun j aO=>?_,h.qV.dR o4,h.pX.dR aC,y7,fun t y ax=>?_,fun j u aO mi hu=>?_,fun j aO=>?_,cZ.symm.imp (fun q j aO=>?_) id⟩
 ·by_cases e:j=i
  ·subst e;exact mh _ _
  ·rw [jD _ e] at aO;exact vd (h.sub j aO)
 ·by_cases e:o.dst=some t
  ·simp only [e,Env.get?,ar3,ae2] at ax
   cases ax;exact .inr (by rw [BL t e];exact oa)
  ·have da:env.get? t=some y:=by
    cases av:o.dst with
    | none=>rw [av] at ax;exact ax
    | some d=>
     rw [av] at ax e;simp only [Env.get?] at ax;have:ad0 d t=false:=by
      cases an:ad0 d t with
      | false=>rfl
      | true=>exact absurd (ac5 some (ab' an)) e
     rw [this] at ax;simpa using ax
   rcases h.known t y da with ⟨k,u,U,ad,al,bd⟩|eG
   ·have cp:k≠i:=fun e'=>by subst e';rw [ah] at al;cases al;exact e bd
    exact .inl ⟨k,u,vd U,by rw [jD _ cp];exact ad,al,bd⟩
   ·exact .inr (by rw [jP t e];exact eG.mono hle)
 ·have cp:j≠i:=fun e=>by subst e;rw [mh] at mi;cases mi
  rw [jD _ cp] at mi aO;obtain ⟨cX,b7,bR,eE,ko,so⟩:=h.vf j u aO mi hu;have y8:o.dst≠some cX:=fun e=>cp (du.uniq j i u o cX hu ah b7 e)
  refine ⟨cX,b7,bR,?_,ko,fun t y ax=>?_⟩
  ·cases av:o.dst with
   | none=>exact eE
   | some d=>
    simp only [Env.get?];have:ad0 d cX=false:=by
     cases an:ad0 d cX with
     | false=>rfl
     | true=>exact absurd (by rw [av,ab' an]) y8
    rw [this];simpa using eE
  ·obtain ⟨f1,f2,f3⟩:=so t y ax
   have Jo:o.dst≠some t:=fun e=>by
    rcases du.apart i j o u t (Ne.symm cp) ah hu e f1 with hW|hW
    ·have:=(h.pX.dR aC).pW (mh L i) hW
     rw [jD _ cp,mi] at this;cases this
    ·have:=h.qV.pW aO hW;rw [o4.2.1] at this;cases this
   refine ⟨f1,fun k jC eu kS hW od=>?_,fun gE=>?_⟩
   ·have sq:k≠i:=fun e=>by subst e;rw [mh] at od;cases od
    rw [jD _ sq] at od;exact f2 k jC eu kS hW od
   ·rw [jP t Jo]
    refine (f3 fun k jC eu kS hW=>?_).mono hle;have sq:k≠i:=fun e'=>by subst e';rw [ah] at eu;cases eu;exact Jo kS
    have:=gE k jC eu kS hW;rwa [jD _ sq] at this
 ·by_cases e:j=i
  ·subst e;exact aC.1
  ·rw [jD _ e] at aO;exact h.bound j aO
 ·by_cases e:j=i
  ·subst e;exact mh _ _
  ·rw [jD _ e] at aO
   exact (h.pX.dR aC).pW (mh L i) (q j (h.bound j aO) aO e)
theorem kq.Q6 (du:tu ops) {B:fx} {ro:Option Nat} {D L:Nat→Bool} {V:Nat→af} {E:Nat→Env} {env:Env} {s ai:ak} {a:Act} {w w':World} {p bg:bO} {ve:ak→Prop}
  (h:kq J P Γ N B ro ops D L V E env s a w p) {i:Nat} {o:Oper} {val:Value} {x:af} (aC:gZ ops L i) (o4:gZ ops D i) (ah:ops[i]? = some o) (mN:∀ d,o.dst=some d→d<N)
  (hle:c8 w p w' bg) (aD:Kept s ai w p w' bg) (b5:df w' bg ai) (oa:Rel w' bg val x) (cZ:(ve=J∧J ai)∨∀ j,j<ops.size→D j=true→j≠i→kQ ops i j) :
  kq ve P Γ N B ro ops (dR D i) (dR L i) V E (match o.dst with|some d=>(d,x)::env|none=>env) ai (a.put o.dst val) w' bg:=by
 rcases cZ with ⟨rfl,cZ⟩|gE
 ·exact h.both du aC o4 ah mN hle aD b5 oa (.inl cZ)
 ·have eT:=h.both du aC o4 ah mN hle aD b5 oa (.inr gE)
  have left:∀ j,dR D i j=true→dR L i j=true:=fun j aO=>by
   by_cases e:j=i
   ·subst e;exact mh _ _
   ·rw [jD _ e] at aO
    exact (h.pX.dR aC).pW (mh L i) (gE j (h.bound j aO) aO e)
  exact ⟨eT.sub,eT.qV,eT.pX,eT.st,eT.known,fun j u aO mi _=>(by rw [left j aO] at mi;cases mi),eT.bound,.inl left⟩
def jr (listed:Array Bool) (n:Nat):Nat→Bool:=fun i=>decide (i<n)&&listed.getD i true
theorem mem_ready {listed:Array Bool} (xa:∀ i j,pV ops i j→j<i) {i:Nat} (h:i∈Region.ready .any ops listed):gZ ops (jr listed ops.size) i:=by
 unfold Region.ready at h;simp only [af4,ah6,f6,ag5] at h;obtain ⟨az,aB,gE⟩:=h;refine ⟨az,by simp only [jr,aB,Bool.and_false],fun j ⟨o,e,ah,he,an,aO⟩=>?_⟩;have aaZ:j<i:=xa i j ⟨o,e,ah,he,an,aO⟩;rw [ah] at gE;simp only [am3,ae7,ax5] at gE;have:=gE e he;simp only [an,ah7,af1] at this;rw [aO] at this;have r4:j<ops.size:=by omega
 simp only [jr,r4,decide_true,f4];rw [ad9] at this ⊢;cases ab:listed[j]? with
 | none=>rfl
 | some b=>rw [ab] at this;simpa using this
theorem Jp {listed:Array Bool} (xa:∀ i j,pV ops i j→j<i) (aA:Region.ready .any ops listed=[]) (b':listed.size=ops.size):∀ i,i<ops.size→jr listed ops.size i=true:=by
 intro i
 induction i using as5 with
 | _ i aX=>
  intro aS;cases aB:listed.getD i true with
  | true=>simp [jr,aS,aB]
  | false=>
   have fV:i∈Region.ready .any ops listed:=by
    unfold Region.ready;simp only [af4,ah6,f6,ag5];refine ⟨aS,aB,?_⟩;have ah:ops[i]? = some ops[i]:=by simp
    rw [ah];simp only [am3,ae7,ax5];intro e he;cases an:Region.binds .any e with
    | false=>rfl
    | true=>
     simp only [ah7,af1];have az:=xa i e.on ⟨_,e,ah,he,an,rfl⟩;have:=aX e.on az ag;have cU:e.on<listed.size:=by omega
     simp only [jr,f6] at this;rw [ad9] at this ⊢;have Q7:listed[e.on]? = some listed[e.on]:=by simp [cU]
     rw [Q7] at this ⊢;simpa using this.2
   rw [aA] at fV;cases fV
theorem EJ {listed:Array Bool} {i:Nat} (aS:i<ops.size) (b':listed.size=ops.size):jr (listed.setIfInBounds i true) ops.size=dR (jr listed ops.size) i:=by
 funext j;unfold jr dR;by_cases e:j=i
 ·subst e;simp [aS,b']
 ·have e':¬ i=j:=fun h=>e h.symm
  simp only [f0 e,ad9,ae5,f0 e']
theorem Q8 (aP:bM P Γ) {B:fx} {ro:Option Nat} {E:Env} {s:ak} {a:Act} {w:World} {p:bO} {o:Oper} {d:Tmp} {v:af} (av:o.dst=some d) (aI:dq N B ro E s a w p) (cZ:J s) (h:Still J P Γ N ops o E v) {R:Ending→World→Prop} {S:Act→World→Prop}
  (I:∀ val w' bg,Rel w' bg val v→c8 w p w' bg→Kept s s w p w' bg→df w' bg s→S (a.put (some d) val) w') :
  (if Region.wanted o (yielded ops a.tmps)=true then gm o=true∧oQ P ((execOp a.eval o).run P w) (fun e w'=>match e with
   | .returned v=>S (a.put o.dst v) w'
   | .panicked dr=>R (.panicked dr) w'
   | .outgrown=>False) else S (a.put o.dst undef) w):=by
 rcases h with ⟨au,ar⟩|⟨au,rfl⟩|⟨au,ar⟩
 ·rw [f9 (uO aI au)]
  refine ⟨ar.gm,?_⟩;obtain ⟨val,w',bg,cK,aC,hle,aD⟩:=ar.ok aP aI;rw [cK];obtain ⟨lK,ie⟩:=aD s aI.wf;rw [av];exact I val w' bg aC hle lK ie
 ·rw [f0 (by rw [uO aI au];simp),av]
  exact I undef w p Eb (.refl w p) (.refl s w p) aI.wf
 ·rw [f9 (uO aI au)]
  refine ⟨(ar s cZ).1,((ar s cZ).2 ro B a w p aI).mono ?_⟩;rintro e w' ⟨ai,bg,hle,aD,b5,he⟩;cases e with
  | returned val=>
   obtain ⟨x,⟨rfl,rfl⟩,aC⟩:=he;rw [av];exact I val w' bg aC hle aD b5
  | panicked dr=>obtain ⟨v,x,-,a1,-⟩:=he;exact a1.elim
  | outgrown=>exact he
end
section
variable {J:ak→Prop} {P:Program} {Γ:cj} {N:Nat} {ops:Array Oper} {Q:bX→Env→ak→Prop}
def qW (listed:Array Bool) (n:Nat):Nat:=(af7 n).countP fun i => !jr listed n i
theorem Jq {listed:Array Bool} {i:Nat} (aS:i<ops.size) (b':listed.size=ops.size) (aB:jr listed ops.size i=false) :
  qW (listed.setIfInBounds i true) ops.size+1=qW listed ops.size:=by
 unfold qW;rw [EJ aS b'];have key:∀ l:List Nat,l.Nodup→i∈l→l.countP (fun j => !dR (jr listed ops.size) i j)+1=l.countP (fun j => !jr listed ops.size j):=by
  intro l
  induction l with
  | nil=>intro _ h;cases h
  | cons x l aX=>
   intro aA hm;have gF:=ap3.1 aA;simp only [List.countP_cons];by_cases e:x=i
   ·subst e
    have:l.countP (fun j => !dR (jr listed ops.size) x j)=l.countP (fun j => !jr listed ops.size j):=by
     apply List.countP_congr;intro y ax;have cp:y≠x:=fun e=>gF.1 (e ▸ ax)
     rw [jD _ cp]
    rw [this,mh,aB];simp
   ·have BM:i∈l:=by rcases ad4.1 hm with h|h;exact absurd h.symm e;exact h
    have:=aX gF.2 BM;rw [jD _ e];omega
 exact key _ List.nodup_range (ah6.2 aS)
theorem Jr {listed:Array Bool} (h:qW listed ops.size=0):∀ i,i<ops.size→jr listed ops.size i=true:=by
 intro i aS;unfold qW at h;rw [List.countP_eq_zero] at h;have:=h i (ah6.2 aS);simpa using this
theorem Js {Q:gM→Act→World→Prop} {i:Nat} {rest:List Nat} {o:Oper} (ah:ops[i]? = some o) (a:Act) (w:World) :
  iI P ops Q (i::rest) a w=(if Region.wanted o (yielded ops a.tmps)=true then gm o=true∧oQ P ((execOp a.eval o).run P w) (fun e w'=>match e with
   | .returned v=>iI P ops Q rest (a.put o.dst v) w'
   | .panicked dr=>Q (.panic dr) a w'
   | .outgrown=>False) else iI P ops Q rest (a.put o.dst undef) w):=by
 simp only [iI,ah];split
 ·exact propext ⟨fun h=>⟨h.1,h.2.mono fun e w' h=>by cases e<;>exact h⟩,fun h=>⟨h.1,h.2.mono fun e w' h=>by cases e<;>exact h⟩⟩
 ·rfl
theorem Jt (fuel t:Nat) (listed:Array Bool) :
  (Region.ready .any ops listed=[]∧Region.linearise.go .any ops (fuel+1) t listed []=[]) ∨
  ∃ i∈Region.ready .any ops listed,∃ bI,Region.linearise.go .any ops (fuel+1) t listed []=i::Region.linearise.go .any ops fuel bI (listed.setIfInBounds i true) []:=by
 simp only [Region.linearise.go]
 change (Region.ready .any ops listed=[]∧(match (Region.ready .any ops listed)[t % (Region.ready .any ops listed).length]? with
   | some i=>Region.linearise.go .any ops fuel (t / (Region.ready .any ops listed).length) (listed.setIfInBounds i true) [i]
   | none=>[].reverse)=[])∨∃ i∈Region.ready .any ops listed,∃ bI,(match (Region.ready .any ops listed)[t % (Region.ready .any ops listed).length]? with
   | some i=>Region.linearise.go .any ops fuel (t / (Region.ready .any ops listed).length) (listed.setIfInBounds i true) [i]
   | none=>[].reverse)=i::Region.linearise.go .any ops fuel bI (listed.setIfInBounds i true) []
 cases aS:(Region.ready .any ops listed)[t % (Region.ready .any ops listed).length]? with
 | none=>
  have Q9:Region.ready .any ops listed=[]:=by
   cases aC:Region.ready .any ops listed with
   | nil=>rfl
   | cons x xs=>
    rw [aC] at aS;have az:t % (x::xs).length<(x::xs).length:=Nat.mod_lt _ bc;simp at aS;simp at az;omega
  exact .inl ⟨Q9,rfl⟩
 | some i=>
  refine .inr ⟨i,List.mem_of_getElem? aS,t / (Region.ready .any ops listed).length,?_⟩;simp only [];rw [linearise_go_acc];rfl
theorem kq.post {B:fx} {ro:Option Nat} {D L:Nat→Bool} {V:Nat→af} {E:Nat→Env} {env:Env} {s:ak} {a:Act} {w:World} {p:bO}
  (h:kq J P Γ N B ro ops D L V E env s a w p) (bY:∀ i,i<ops.size→L i=true):dq N B ro env s a w p:=
 h.st.restrict _ fun t v ar=>by
  rcases h.known t v ar with ⟨k,u,U,ad,al,-⟩|eG
  ·have:=bY k (h.bound k U);rw [ad] at this;cases this
  ·exact eG
theorem bh.sound (aP:bM P Γ) (du:tu ops) {D:Nat→Bool} {env:Env} {s:ak} (h:bh J P Γ N ops Q D env s):∀ (fuel t:Nat) (listed:Array Bool) (B:fx) (ro:Option Nat) (V:Nat→af) (E:Nat→Env) (a:Act) (w:World) (p:bO),
  listed.size=ops.size→qW listed ops.size≤fuel→kq J P Γ N B ro ops D (jr listed ops.size) V E env s a w p →
  iI P ops (jW N B ro s w p Q) (Region.linearise.go .any ops fuel t listed []) a w:=by
 have pending:∀ {J:ak→Prop} {D:Nat→Bool} {env:Env} {s:ak} (fuel:Nat),
   (∀ (t:Nat) (listed:Array Bool) (B:fx) (ro:Option Nat) (V:Nat→af) (E:Nat→Env) (a:Act) (w:World) (p:bO),listed.size=ops.size→qW listed ops.size≤fuel →
    kq J P Γ N B ro ops D (jr listed ops.size) V E env s a w p→iI P ops (jW N B ro s w p Q) (Region.linearise.go .any ops fuel t listed []) a w) →
   ∀ (bI:Nat) (listed:Array Bool) (B:fx) (ro:Option Nat) (V:Nat→af) (E:Nat→Env) (a:Act) (w:World) (p:bO) (i:Nat),listed.size=ops.size→qW listed ops.size≤fuel+1 →
    kq J P Γ N B ro ops D (jr listed ops.size) V E env s a w p→i∈Region.ready .any ops listed→D i=true →
    iI P ops (jW N B ro s w p Q) (i::Region.linearise.go .any ops fuel bI (listed.setIfInBounds i true) []) a w:=by
  intro J D env s fuel aX bI listed B ro V E a w p i b' qX hP aS e5;have aC:=mem_ready du.back aS;obtain ⟨o,ah⟩:∃ o,ops[i]? = some o:=⟨_,ar1 aC.1⟩;obtain ⟨d,av,mN,BK,Jn,eV⟩:=hP.vf i _ e5 aC.2.1 ah;have aI:dq N B ro (E i) s a w p:=hP.st.restrict _ fun t v ar=>by
   obtain ⟨-,-,f3⟩:=eV t v ar;exact f3 fun k u aD kS hW=>by
    have:=(hP.pX.dR aC).pW (mh (jr listed ops.size) i) hW;have cp:k≠i:=fun e=>by
     subst e;rw [ah] at aD;cases aD;rw [av] at kS;cases kS;exact du.own _ _ _ ah av (eV _ _ ar).1
    rwa [jD _ cp] at this
  rw [Js ah];have cZ:J s:=hP.inv.elim (fun q=>by have:=q i e5;rw [aC.2.1] at this;cases this) id;refine Q8 aP av aI cZ Jn (R:=fun e w'=>match e with | .panicked dr=>jW N B ro s w p Q (.panic dr) a w'|_=>False) ?_;intro val w' bg eG hle aD b5;have tv:=hP.Q5 du aC e5 ah av hle aD b5 eG;rw [← EJ aC.1 b'] at tv;have Q':=Jq aC.1 b' aC.2.1;refine uP (fun _ _ _ (q:jW N B ro s w' bg Q _ _ _)=>q.after hle aD) _ _ _ (aX bI _ B ro V E _ w' bg (by simpa using b') ag tv)
 induction h with
 | @congr J D env s e he h aX=>
  intro fuel t listed B ro V E a w p b' qX hP;refine aX fuel t listed B ro V E a w p b' qX ⟨hP.sub,hP.qV,hP.pX,hP.st,fun t v ar=>hP.known t v ((he t).symm.trans ar),fun i o U ad al=>?_,hP.bound,hP.inv⟩;obtain ⟨d,dV,dg,dB,ma⟩:=hP.vf i o U ad al;exact ⟨d,dV,dg,(he d).trans dB,ma⟩
 | @fin J D env s e5 bp=>
  intro fuel
  induction fuel with
  | zero=>
   intro t listed B ro V E a w p b' qX hP;have gE:=Jr (ops:=ops) (listed:=listed) ag;exact .here .normal bp (hP.post gE)
  | succ fuel aX=>
   intro t listed B ro V E a w p b' qX hP;rcases Jt (ops:=ops) fuel t listed with ⟨aA,au⟩|⟨i,aS,bI,au⟩
   ·rw [au]
    exact .here .normal bp (hP.post (Jp du.back aA b'))
   ·rw [au]
    exact pending fuel aX bI listed B ro V E a w p i b' qX hP aS (e5 i (mem_ready du.back aS).1)
 | @still J D env s cZ i o d v aC ah av aY ar h aX=>
  intro fuel t listed B ro V E a w p b' qX hP;exact aX fuel t listed B ro _ _ a w p b' qX (hP.ahead du aC ah av aY cZ ar)
 | @split J D env s K X ve cp au aO aD kR ab Ra Rb=>
  intro fuel
  induction fuel with
  | zero=>
   intro t listed B ro V E a w p b' qX hP;have gE:=Jr (ops:=ops) (listed:=listed) ag;obtain ⟨j,aO,EK⟩:=cp;have:=hP.sub j (gE j aO);rw [EK] at this;cases this
  | succ fuel aX=>
   intro t listed B ro V E a w p b' qX hP;rcases Jt (ops:=ops) fuel t listed with ⟨aA,vg⟩|⟨i,aS,bI,vg⟩
   ·obtain ⟨j,aO,EK⟩:=cp
    have:=hP.sub j (Jp du.back aA b' j aO);rw [EK] at this;cases this
   ·rw [vg]
    cases e5:D i with
    | true=>exact pending fuel aX bI listed B ro V E a w p i b' qX hP aS e5
    | false=>
     have aC:=mem_ready du.back aS;obtain ⟨o,ah⟩:∃ o,ops[i]? = some o:=⟨_,ar1 aC.1⟩;obtain ⟨o4,aI⟩:=hP.ready du aC e5 ah;obtain ⟨kr,pZ,mN⟩:=au i _ o4 ah;have Q':=Jq aC.1 b' aC.2.1;rw [Js ah,f9 (uO aI kr)];refine ⟨pZ.1,(pZ.2 ro B a w p aI).mono ?_⟩;rintro e w' ⟨ai,bg,hle,k8,b5,he⟩;cases e with
     | returned val=>
      obtain ⟨x,bm,eG⟩:=he;have tv:=hP.Q6 du aC o4 ah mN hle k8 b5 eG (aO i _ o4 ah x ai bm);rw [← EJ aC.1 b'] at tv;refine uP (fun _ _ _ (q:jW N B ro ai w' bg Q _ _ _)=>q.after hle k8) _ _ _ ?_;cases av:o.dst with
      | none=>
       rw [av] at tv;exact Rb i _ o4 ah av x ai bm fuel bI _ B ro V E _ w' bg (by simpa using b') ag tv
      | some d=>
       rw [av] at tv;exact Ra i _ d o4 ah av x ai bm fuel bI _ B ro V E _ w' bg (by simpa using b') ag tv
     | panicked dr=>
      obtain ⟨v,x,km,ic,eG⟩:=he;exact ⟨.panic x,[],ai,bg,.panic v x _ km eG,ab i _ o4 ah x ai ic,hP.st.step hle k8 b5,hle,k8⟩
     | outgrown=>exact he
theorem Rc (ops:Array Oper):qW (ai7 ops.size false) ops.size≤ops.size:=by
 unfold qW;have:=List.countP_le_length (p:=fun i => !jr (ai7 ops.size false) ops.size i) (l:=af7 ops.size);simpa using this
theorem ae.draw (aP:bM P Γ) (hm:P.follows .mixedOrders=true) {id:Nat} (du:tu ops) {env:Env} {s:ak} (h:bh J P Γ N ops Q (fun _=>false) env s):ae P N (.region id ops true) Q env s:=by
 intro b B a w p _ aI;refine PF fun t=>?_
 simp only [Region.schedule,hm,Bool.true_or,ae2];have hE:dq N B b.roundOf env s a w.drew p:=aI.step kn uR (w1 aI.wf);have Re:jr (ai7 ops.size false) ops.size=fun _=>false:=by
  funext i;unfold jr;by_cases aS:i<ops.size
  ·simp [aS]
  ·simp [aS]
 have hP:kq J P Γ N B b.roundOf ops (fun _=>false) (jr (ai7 ops.size false) ops.size) (fun _ => .any) (fun _=>[]) env s a w.drew p:=by
  rw [Re];exact ⟨fun i h=>h,fun i j h=>ng,fun i j h=>ng,hE.restrict [] (by simp [Env.get?]),fun t v ar => .inr (hE.env t v ar),fun i o h=>ng,fun i h=>ng,.inl fun i h=>ng⟩
 have:=bh.sound aP du h ops.size t (ai7 ops.size false) B b.roundOf _ _ a w.drew p bc (Rc ops) hP;exact uP (fun _ _ _ (q:jW N B b.roundOf s w.drew p Q _ _ _)=>q.after kn uR) _ _ _ this
end
def vh (o:Oper):List Nat:=o.after.toList.filterMap fun e=>if Region.binds .any e then some e.on else none
def p0 (l:List Nat) (i:Nat):Nat:=match nth l i with|some x=>x|none=>0
def xb (acc:List Nat):List Nat→Nat
 | []=>0
 | j::vi=>(2^j|||p0 acc j)|||xb acc vi
def vj:List Oper→List Nat→List Nat
  | [],acc=>acc
  | o::r,acc=>match xb acc (vh o) with
    | 0=>vj r (acc++[0])
    | m+1=>vj r (acc++[m+1])
def BN (ops:Array Oper) (x y:Oper):Bool:=
 (match x.dst with|some d=>(looks ops y).contains d|none=>false)||(match y.dst with|some d=>(looks ops x).contains d|none=>false)
def qY (ops:Array Oper):Bool:=
  let ms:=vj ops.toList []
  (af7 ops.size).all fun j=>match ops[j]? with
    | none=>false
    | some y=>(vh y).all (fun k=>i9 k j)&&(match y.dst with|some d => !(looks ops y).contains d|none=>true) &&
      (af7 j).all fun i=>match ops[i]? with
        | none=>false
        | some x=>(match x.dst,y.dst with|some d,some cX => !ad0 d cX|_,_=>true)&&(!BN ops x y||(p0 ms j).testBit i)
theorem BO {ops:Array Oper} {i j:Nat} {o:Oper} (ah:ops[i]? = some o):j∈vh o↔pV ops i j:=by
 unfold vh pV;simp only [List.mem_filterMap,Array.mem_toList_iff];constructor
 ·rintro ⟨e,he,h⟩
  split at h
  ·cases h;exact ⟨o,e,ah,he,‹_›,rfl⟩
  ·cases h
 ·rintro ⟨o',e,cr,he,an,rfl⟩
  rw [ah] at cr;cases cr;exact ⟨e,he,by simp [an]⟩
theorem Rf {ops:Array Oper} {acc:List Nat} {k:Nat} (tw:∀ i j,(p0 acc i).testBit j=true→kQ ops i j):∀ (vi:List Nat),(∀ j∈vi,pV ops k j)→∀ j,(xb acc vi).testBit j=true→kQ ops k j:=by
 intro vi
 induction vi with
 | nil=>intro _ j h;simp [xb] at h
 | cons x vi aX=>
  intro av j h;simp only [xb,aj7,Bool.or_eq_true] at h;rcases h with (h|h)|h
  ·rw [ai9] at h
   have:=ah1 h;subst this;exact .dep (av _ (i5 ..))
  ·exact .trans (av _ (i5 ..)) (tw _ _ h)
  ·exact aX (fun y ax=>av y (g7 _ ax)) j h
theorem Ju {ops:Array Oper}:∀ (r:List Oper) (acc:List Nat),(∀ i,r[i]? = ops[acc.length+i]?)→(∀ i j,(p0 acc i).testBit j=true→kQ ops i j) →
  ∀ i j,(p0 (vj r acc) i).testBit j=true→kQ ops i j:=by
 intro r
 induction r with
 | nil=>intro acc _ h;exact h
 | cons o r aX=>
  intro acc aC tw;have ah:ops[acc.length]? = some o:=by simpa using (aC 0).symm
  have hm:=Rf tw (k:=acc.length) (vh o) (fun j aO=>(BO ah).1 aO);have key:∀ m,xb acc (vh o)=m→∀ i j,(p0 (vj r (acc++[m])) i).testBit j=true→kQ ops i j:=by
   intro m EL;refine aX (acc++[m]) (fun i=>?_) (fun i j h=>?_)
   ·have:=aC (i+1)
    simp only [am9] at this;rw [this];simp [ak4,ao7 1 i]
   ·unfold p0 at h
    rw [w2] at h;by_cases aS:i<acc.length
    ·rw [ad3 aS] at h
     exact tw i j (by unfold p0;rw [w2];exact h)
    ·rw [ad6 ag] at h
     by_cases he:i=acc.length
     ·subst he
      simp at h;rw [← EL] at h;exact hm j h
     ·have:i-acc.length≠0:=by omega
      cases ab:i-acc.length with
      | zero=>omega
      | succ n=>rw [ab] at h;simp at h
  simp only [vj];split
  ·rename_i bo;exact key _ bo
  ·rename_i m bo;exact key _ bo
theorem EM {ops:Array Oper} (h:qY ops=true):tu ops:=by
 unfold qY at h;simp only [ae',ah6] at h;have h5:=Ju (ops:=ops) ops.toList [] bc (by intro i j h;simp [p0,nth] at h);have one:∀ j y,ops[j]? = some y→(∀ k,pV ops j k→k<j)∧(∀ d,y.dst=some d→d∉looks ops y) ∧
   (∀ i x,i<j→ops[i]? = some x→(∀ d,x.dst=some d→y.dst≠some d)∧(BN ops x y=true→kQ ops j i)):=by
  intro j y ax;have aO:j<ops.size:=(i8.1 ax).1;have:=h j aO;simp only [ax,f6,ae',ah6] at this;obtain ⟨⟨U,ad⟩,al⟩:=this;refine ⟨fun k aD=>?_,fun d av=>?_,fun i x aS ab=>?_⟩
  ·have:=U k ((BO ax).2 aD)
   simpa [ak9] using this
  ·rw [av] at ad;simpa using ad
  ·have:=al i aS
   simp only [ab,f6] at this;obtain ⟨g1,g2⟩:=this;refine ⟨fun d av cc=>?_,fun aF=>?_⟩
   ·rw [av,cc] at g1;simp at g1
   ·rw [aF] at g2
    exact h5 j i (by simpa using g2)
 refine ⟨fun i j x y d ab ax y9 Jv=>?_,fun i j x y d cp ab ax y9 aB=>?_,fun i j av=>?_,fun i x d ab av=>(one i x ab).2.1 d av⟩
 ·rcases ar8 i j with az|he|oT
  ·exact absurd Jv (((one j y ax).2.2 i x az ab).1 d y9)
  ·exact he
  ·exact absurd y9 (((one i x ab).2.2 j y oT ax).1 d Jv)
 ·rcases ar8 i j with az|he|oT
  ·exact .inr (((one j y ax).2.2 i x az ab).2 (by simp [BN,y9,aB]))
  ·exact absurd he cp
  ·exact .inl (((one i x ab).2.2 j y oT ax).2 (by simp [BN,y9,aB]))
 ·obtain ⟨o,e,ah,-⟩:=id av
  exact (one i o ah).1 j av
def vk (Γ:cj) (N:Nat) (ops:Array Oper) (E:Env) (o:Oper):Option (Nat×af):=
  match o.dst with
  | none=>none
  | some d=>match i9 d N with
    | false=>none
    | true=>match guardOf ops E o with
      | some true=>match oS Γ o E with
        | some v=>some (d,v)
        | none=>none
      | some false=>some (d,.cg [])
      | none=>none
def y' (Γ:cj) (N:Nat) (ops:Array Oper):List Oper→Env→List Oper×Env
  | [],env=>([],env)
  | o::l,env=>match vk Γ N ops env o with
    | some (d,v)=>y' Γ N ops l ((d,v)::env)
    | none=>(o::l,env)
theorem BP {J:ak→Prop} {P:Program} {Γ:cj} {N:Nat} {ops:Array Oper} {E:Env} {o:Oper} {d:Nat} {v:af} (h:vk Γ N ops E o=some (d,v)):o.dst=some d∧d<N∧Still J P Γ N ops o E v:=by
 unfold vk at h;split at h
 ·cases h
 ·rename_i cX av
  split at h
  ·cases h
  ·rename_i aY
   split at h
   ·rename_i au
    split at h
    ·rename_i fj ar;cases h;exact ⟨av,by simpa [ak9] using aY,.inl ⟨au,.a ar⟩⟩
    ·cases h
   ·rename_i au;cases h;exact ⟨av,by simpa [ak9] using aY,.inr (.inl ⟨au,rfl⟩)⟩
   ·cases h
section
variable {P:Program} {Γ:cj} {N:Nat} {ops:Array Oper} {Q:bX→Env→ak→Prop} {env:Env} {s:ak}
theorem aa.run (aP:bM P Γ) {l kT:List Oper} {eN:Env} (h:y' Γ N ops l env=(kT,eN)) (aD:aa P N ops kT Q eN s):aa P N ops l Q env s:=by
 induction l generalizing env with
 | nil=>simp only [y',Prod.mk.injEq] at h;obtain ⟨rfl,rfl⟩:=h;exact aD
 | cons o l aX=>
  simp only [y'] at h;split at h
  ·rename_i d v aK
   obtain ⟨av,aY,ao⟩:=BP (J:=mY) (P:=P) aK;have o5:i9 d N=true:=by simpa [ak9] using aY
   rcases ao with ⟨au,ar⟩|⟨au,rfl⟩|⟨au,ar⟩
   ·exact aa.pure aP au av o5 ar (aX h)
   ·exact aa.skip au av o5 (aX h)
   ·exact aa.op au av o5 (ar s trivial) (fun x ai ⟨U,ad⟩=>by subst U;subst ad;exact aX h) (fun _ _ h=>h.elim)
  ·simp only [Prod.mk.injEq] at h;obtain ⟨rfl,rfl⟩:=h;exact aD
theorem aa.BQ {l:List Oper} (t:Nat) {v fj:af} (ar:env.get? t=some v) (he:v=fj) (h:aa P N ops l Q ((t,fj)::env) s):aa P N ops l Q env s:=by
 subst he;intro k aD ro B a w p aI
 exact h k aD ro B a w p ⟨aI.size,fun u x ab=>by
  simp only [Env.get?] at ab
  split at ab
  ·rename_i an;have:=ab' an;subst this;cases ab;exact aI.env _ _ ar
  ·exact aI.env u x ab,aI.wf,aI.defs,aI.round,aI.base⟩
theorem aa.dW {l:List Oper} (t:Nat) {b:Bool} (ar:env.get? t=some (.bool b)) (he:b=true) (h:aa P N ops l Q ((t,.bool true)::env) s):aa P N ops l Q env s:=aa.BQ t ar (ac5 af.bool he) h
theorem aa.dc {l:List Oper} (t:Nat) {b:Bool} (ar:env.get? t=some (.bool b)) (he:b=false) (h:aa P N ops l Q ((t,.bool false)::env) s):aa P N ops l Q env s:=aa.BQ t ar (ac5 af.bool he) h
theorem aa.sub {l:List Oper} (e:Env) (ao:Env.Sub e env) (h:aa P N ops l Q e s):aa P N ops l Q env s:=
 fun k aD ro B a w p aI=>h k aD ro B a w p (aI.sub ao)
theorem aa.drop {l:List Oper} (ai:ak) (ao:ak.Sub ai s) (h:aa P N ops l Q env ai):aa P N ops l Q env s:=
 fun k aD ro B a w p aI=>uP (fun _ _ _ (q:jW N B ro ai w p Q _ _ _)=>let ⟨x,eN,eA,bg,U,ad,al,bd,bB⟩:=q;⟨x,eN,eA,bg,U,ad,al,bd,bB.wY ao⟩) _ _ _ (h k aD ro B a w p (aI.D9 ao))
end
def bQ (m:Nat):Nat→Bool:=fun i=>m.testBit i
theorem oe (m i:Nat):dR (bQ m) i=bQ (m|||2^i):=by
 funext j;unfold dR bQ;rw [aj7,ai9];by_cases e:j=i
 ·subst e;simp
 ·have e':¬ i=j:=fun h=>e h.symm
  simp [e,e']
def h6 (ops:Array Oper) (m i:Nat):Bool:=match ops[i]? with
 | none=>false
 | some o => !(m.testBit i)&&(vh o).all fun j=>m.testBit j
theorem sr {ops:Array Oper} {m i:Nat}:h6 ops m i=true↔gZ ops (bQ m) i:=by
 unfold h6 gZ bQ;constructor
 ·intro h
  split at h
  ·cases h
  ·rename_i o ah
   simp only [f6,ag5,ae'] at h;exact ⟨(i8.1 ah).1,h.1,fun j aO=>h.2 j ((BO ah).2 aO)⟩
 ·rintro ⟨U,ad,al⟩
  have ah:ops[i]? = some ops[i]:=ar1 U;rw [ah];simp only [ad,Bool.not_false,f4,ae'];exact fun j aO=>al j ((BO ah).1 aO)
def eD (ops:Array Oper) (m:Nat):List Nat→List Nat
  | []=>[]
  | i::is=>match h6 ops m i with
    | true=>i::eD ops m is
    | false=>eD ops m is
theorem za {ops:Array Oper} {m i:Nat} {l:List Nat} (h:gZ ops (bQ m) i) (aS:i∈l):i∈eD ops m l:=by
 induction l with
 | nil=>cases aS
 | cons j l aX=>
  simp only [eD];rcases ad4.1 aS with rfl|aS
  ·rw [sr.2 h];exact i5 ..
  ·split
   ·exact g7 _ (aX aS)
   ·exact aX aS
def p1 (Γ:cj) (N:Nat) (ops:Array Oper):List Nat→Nat→Env→Nat×Env
  | [],m,env=>(m,env)
  | i::is,m,env=>match ops[i]? with
    | none=>p1 Γ N ops is m env
    | some o=>match h6 ops m i with
      | false=>p1 Γ N ops is m env
      | true=>match vk Γ N ops (ij env (looks ops o)) o with
        | some (d,v)=>match m|||2^i with
          | 0=>p1 Γ N ops is 0 ((d,v)::env)
          | k+1=>p1 Γ N ops is (k+1) ((d,v)::env)
        | none=>p1 Γ N ops is m env
def idxs:Nat→List Oper→List Nat
 | _,[]=>[]
 | k,_::l=>k::idxs (k+1) l
theorem xc (k:Nat) (l:List Oper):idxs k l=av5 k l.length:=by
 induction l generalizing k with
 | nil=>rfl
 | cons o l aX=>simp [idxs,aX,au9]
section
variable {J:ak→Prop} {P:Program} {Γ:cj} {N:Nat} {l:List Oper} {Q:bX→Env→ak→Prop} {env:Env} {s:ak} {m:Nat}
theorem bh.runs (cZ:J s) {is:List Nat} {jb:Nat} {eN:Env} (h:p1 Γ N l.toArray is m env=(jb,eN)) (aD:bh J P Γ N l.toArray Q (bQ jb) eN s):bh J P Γ N l.toArray Q (bQ m) env s:=by
 induction is generalizing m env with
 | nil=>simp only [p1,Prod.mk.injEq] at h;obtain ⟨rfl,rfl⟩:=h;exact aD
 | cons i is aX=>
  simp only [p1] at h;split at h
  ·exact aX h
  ·rename_i o ah
   split at h
   ·exact aX h
   ·rename_i aC
    split at h
    ·rename_i d v aK
     obtain ⟨av,aY,ao⟩:=BP aK;refine bh.still cZ i o d v (sr.1 aC) ah av aY ao ?_;rw [oe];split at h
     ·rename_i bo;rw [bo];exact aX h
     ·rename_i k bo;rw [bo];exact aX h
    ·exact aX h
theorem ba.runs {is:List Nat} {jb:Nat} {eN:Env} (h:p1 Γ N l.toArray is m env=(jb,eN)) (aD:ba P Γ N l.toArray Q (bQ jb) eN s):ba P Γ N l.toArray Q (bQ m) env s:=bh.runs trivial h aD
theorem bh.run (cZ:J s) {jb:Nat} {eN:Env} (h:p1 Γ N l.toArray (idxs 0 l) m env=(jb,eN)) (aD:bh J P Γ N l.toArray Q (bQ jb) eN s):bh J P Γ N l.toArray Q (bQ m) env s:=bh.runs cZ h aD
theorem ba.run {jb:Nat} {eN:Env} (h:p1 Γ N l.toArray (idxs 0 l) m env=(jb,eN)) (aD:ba P Γ N l.toArray Q (bQ jb) eN s):ba P Γ N l.toArray Q (bQ m) env s:=bh.runs trivial h aD
theorem ba.done (e5:(idxs 0 l).all (fun i=>m.testBit i)=true) (h:Q .normal env s):bh J P Γ N l.toArray Q (bQ m) env s:=by
 refine bh.fin (fun i aS=>?_) h;simp only [ae'] at e5;refine e5 i ?_;rw [xc,ao1];have:i<l.length:=by simpa using aS
 omega
def kt (ops:Array Oper) (i:Nat):Bool:=(af7 ops.size).all fun j=>ad0 j i||(p0 (vj ops.toList []) i).testBit j
theorem BR {ops:Array Oper} {i:Nat} (h:kt ops i=true):∀ j,j<ops.size→j≠i→kQ ops i j:=by
 intro j aO cp;simp only [kt,ae'] at h;have:=h j (ah6.2 aO);have an:ad0 j i=false:=by
  cases an:ad0 j i with
  | false=>rfl
  | true=>exact absurd (ab' an) cp
 rw [an,af1] at this;refine Ju ops.toList [] (fun i=>by simp) (fun i j h=>?_) i j this;have:p0 [] i=0:=by cases i<;>rfl
 rw [this] at h;simp at h
theorem bh.one {i:Nat} {o:Oper} {d:Nat} {K X:af→ak→Prop} (aC:eD l.toArray m (idxs 0 l)=[i]) (ah:l.toArray[i]? = some o) (av:o.dst=some d) (aY:i9 d N=true)
  (au:cY l env o) (h:aW P N o (bU l env o) s K X)
  (aO:∀ x ai,K x ai→J ai∨kt l.toArray i=true) (aD:∀ x ai,K x ai→bh J P Γ N l.toArray Q (bQ (m|||2^i)) ((d,x)::env) ai) (ab:∀ x ai,X x ai→Q (.panic x) [] ai):bh J P Γ N l.toArray Q (bQ m) env s:=by
 have ff:∀ j,gZ l.toArray (bQ m) j→j=i:=fun j aO=>by
  have:=za aO (l:=idxs 0 l) (by rw [xc,ao1];have:=aO.1;simp at this;omega);rw [aC] at this;simpa using this
 have iM:gZ l.toArray (bQ m) i:=by
  have fV:i∈eD l.toArray m (idxs 0 l):=by rw [aC];exact i5 ..
  have:∀ is,i∈eD l.toArray m is→h6 l.toArray m i=true:=by
   intro is
   induction is with
   | nil=>intro h;cases h
   | cons j is aX=>
    intro h;simp only [eD] at h;split at h
    ·rename_i an
     rcases ad4.1 h with rfl|h
     ·exact an
     ·exact aX h
    ·exact aX h
  exact sr.1 (this _ fV)
 refine bh.split (fun _=>K) (fun _=>X) ⟨i,iM.1,iM.2.1⟩ (fun j o' aO cr=>?_) (fun j o' vl cr x ai bm=>by have:=ff j vl;subst this;exact (aO x ai bm).imp id BR) (fun j o' cX aO cr cc x ai bm=>?_) (fun j o' aO cr cc x ai bm=>?_) (fun j o' aO cr x ai ic=>ab x ai ic)
 ·have:=ff j aO;subst this
  rw [ah] at cr;cases cr;exact ⟨au,h,fun cX cc=>by rw [av] at cc;cases cc;simpa [ak9] using aY⟩
 ·have:=ff j aO;subst this
  rw [ah] at cr;cases cr;rw [av] at cc;cases cc;rw [oe];exact aD x ai bm
 ·have:=ff j aO;subst this
  rw [ah] at cr;cases cr;rw [av] at cc;cases cc
theorem bh.xd {i:Nat} {o:Oper} {K X:af→ak→Prop} (aC:eD l.toArray m (idxs 0 l)=[i]) (ah:l.toArray[i]? = some o) (av:o.dst=none)
  (au:cY l env o) (h:aW P N o (bU l env o) s K X)
  (aO:∀ x ai,K x ai→J ai∨kt l.toArray i=true) (aD:∀ x ai,K x ai→bh J P Γ N l.toArray Q (bQ (m|||2^i)) env ai) (ab:∀ x ai,X x ai→Q (.panic x) [] ai):bh J P Γ N l.toArray Q (bQ m) env s:=by
 have ff:∀ j,gZ l.toArray (bQ m) j→j=i:=fun j aO=>by
  have:=za aO (l:=idxs 0 l) (by rw [xc,ao1];have:=aO.1;simp at this;omega);rw [aC] at this;simpa using this
 have az:i<l.toArray.size:=(i8.1 ah).1;have og:bQ m i=false:=by
  cases an:bQ m i with
  | false=>rfl
  | true=>
   have fV:i∈eD l.toArray m (idxs 0 l):=by rw [aC];exact i5 ..
   have:∀ is,i∈eD l.toArray m is→h6 l.toArray m i=true:=by
    intro is
    induction is with
    | nil=>intro h;cases h
    | cons j is aX=>
     intro h;simp only [eD] at h;split at h
     ·rename_i an
      rcases ad4.1 h with rfl|h
      ·exact an
      ·exact aX h
     ·exact aX h
   have:=(sr.1 (this _ fV)).2.1;rw [an] at this;cases this
 refine bh.split (fun _=>K) (fun _=>X) ⟨i,az,og⟩ (fun j o' aO cr=>?_) (fun j o' vl cr x ai bm=>by have:=ff j vl;subst this;exact (aO x ai bm).imp id BR) (fun j o' cX aO cr cc x ai bm=>?_) (fun j o' aO cr cc x ai bm=>?_) (fun j o' aO cr x ai ic=>ab x ai ic)
 ·have:=ff j aO;subst this
  rw [ah] at cr;cases cr;exact ⟨au,h,fun cX cc=>by rw [av] at cc;cases cc⟩
 ·have:=ff j aO;subst this
  rw [ah] at cr;cases cr;rw [av] at cc;cases cc
 ·have:=ff j aO;subst this
  rw [ah] at cr;cases cr;rw [oe];exact aD x ai bm
theorem ba.one {i:Nat} {o:Oper} {d:Nat} {K X:af→ak→Prop} (aC:eD l.toArray m (idxs 0 l)=[i]) (ah:l.toArray[i]? = some o) (av:o.dst=some d) (aY:i9 d N=true)
  (au:cY l env o) (h:aW P N o (bU l env o) s K X)
  (aD:∀ x ai,K x ai→ba P Γ N l.toArray Q (bQ (m|||2^i)) ((d,x)::env) ai) (ab:∀ x ai,X x ai→Q (.panic x) [] ai):ba P Γ N l.toArray Q (bQ m) env s:=
 bh.one aC ah av aY au h (fun _ _ _ => .inl trivial) aD ab
theorem ba.xd {i:Nat} {o:Oper} {K X:af→ak→Prop} (aC:eD l.toArray m (idxs 0 l)=[i]) (ah:l.toArray[i]? = some o) (av:o.dst=none)
  (au:cY l env o) (h:aW P N o (bU l env o) s K X)
  (aD:∀ x ai,K x ai→ba P Γ N l.toArray Q (bQ (m|||2^i)) env ai) (ab:∀ x ai,X x ai→Q (.panic x) [] ai):ba P Γ N l.toArray Q (bQ m) env s:=
 bh.xd aC ah av au h (fun _ _ _ => .inl trivial) aD ab
theorem ba.congr {ops:Array Oper} {D:Nat→Bool} (e:Env) (he:∀ t,e.get? t=env.get? t) (h:ba P Γ N ops Q D e s):ba P Γ N ops Q D env s:=bh.congr e he h
theorem ae.nu (J:ak→Prop) (aP:bM P Γ) (hm:P.follows .mixedOrders=true) {id:Nat} (du:qY l.toArray=true) (h:bh J P Γ N l.toArray Q (bQ 0) env s):ae P N (.region id l.toArray true) Q env s:=by
 refine ae.draw (J:=J) aP hm (EM du) ?_;have:bQ 0=fun _=>false:=by funext i;simp [bQ]
 rw [this] at h;exact h
theorem ae.qZ (aP:bM P Γ) (hm:P.follows .mixedOrders=true) {id:Nat} (du:qY l.toArray=true) (h:ba P Γ N l.toArray Q (bQ 0) env s):ae P N (.region id l.toArray true) Q env s:=by
 refine ae.draw (J:=mY) aP hm (EM du) ?_;have:bQ 0=fun _=>false:=by funext i;simp [bQ]
 rw [this] at h;exact h
end
end Go.Proofs.YtnafpeohfbglmaaGreat
