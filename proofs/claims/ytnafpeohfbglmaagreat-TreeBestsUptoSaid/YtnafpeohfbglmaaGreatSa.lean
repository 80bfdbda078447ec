import Derived.AtR
import Derived.Defers
import Derived.Laws.Sem
import Derived.Laws.World
import Derived.Laws.NewBlocks
import Derived.Laws.Cells
import Derived.Laws.Strings
import Derived.Laws.Tables
import Derived.Laws.Small
import Derived.LaidEql
import Derived.Laws.Append
import Derived.Laws.CopyRow
import Derived.Laws.Slices
import Derived.Laws.IdiomStrings
import Derived.Orders
set_option linter.unusedVariables false
set_option linter.unusedSimpArgs false
universe u
open Array renaming all_eq_true'→aB0,ext'→ap8,foldl_toList→aw6,getD_eq_getD_getElem?→ag1,getElem?_append_left→at0,getElem?_eq_getElem→at6,getElem?_eq_some_iff→i9,getElem?_push→aA3,getElem?_setIfInBounds→ag5,length_toList→ae9,replicate→al5,toList_extract→av6,toList_push→as7
open Bool renaming and_eq_true→f8,false_eq_true→af8,false_or→ag6,not_eq_true'→ai5,not_true→ak2,true_and→f5
open Int renaming ofNat→aq1
open List renaming all_eq_true→ah2,append_assoc→ah0,drop_nil→aw9,drop_succ_cons→ar4,eq_nil_of_length_eq_zero→ai8,flatMap_cons→ak0,flatMap→aD9,foldl_cons→ah7,getElem?_append_left→ag0,getElem?_append_right→af4,getElem?_cons_succ→ap6,getElem?_eq_some_iff→ae2,getElem?_map→ae4,getElem?_take→ai4,length_append→f6,length_cons→g9,length_drop→ai1,length_take→ae8,mapM_cons→ay',map_cons→ae3,map_nil→ah1,map_toArray→ar2,mem_append→ae',mem_cons_of_mem→i0,mem_cons_self→i6,mem_cons→af2,mem_filter→ah6,mem_map→af',mem_of_mem_take→ap0,mem_range'_1→aq7,mem_range→ak5,mem_singleton→H1,nil_append→d8,nodup_cons→as0,range'_succ→ax8,range'→ay8,range→ag3,replicate→t6,size_toArray→an1,take_left→ay9,take_nil→aD1,zipIdx_cons→ax5
open Nat renaming add_assoc→ao4,add_comm→ar0,add_mul→ak7,add_zero→ao',beq_refl→at9,beq→af0,ble→ao5,blt_eq→an3,blt→t8,eq_of_beq_eq_true→ae0,le_of_ble_eq_true→an4,le_refl→g8,le_trans→am',lt_of_lt_of_le→al2,lt_trichotomy→as5,mul_le_mul_right→am9,strongRecOn→av1,testBit_or→am4,testBit_two_pow→al7,zero_add→af5
open Option renaming bind_some→aj5,getD_some→af9,isSome_none→at7,map_eq_some_iff→ay3,map_some→ao9,some→ao1
open Go.Result renaming andThen_ok→i5
open Go.Sem renaming runT_eq→au7,run_bind→ac',run_pure→ae6,run→ax3
namespace Go.Proofs.YtnafpeohfbglmaaGreat
theorem f0 {c:Prop} {h:Decidable c} (k:¬c) {α:Sort _} {t e:α}:(if c then t else e)=e:=if_neg k
theorem g6 {c:Prop} {h:Decidable c} (k:c) {α:Sort _} {t e:α}:(if c then t else e)=t:=if_pos k
theorem i7 {p:Prop} [h:Decidable p] (k:p):decide p=true:=decide_eq_true k
theorem ab' {p:Prop} [h:Decidable p] (k:¬p):decide p=false:=decide_eq_false k
theorem ag7 {α:Sort _} {h:Decidable True} (t e:α):(if True then t else e)=t:=if_true t e
theorem ah' {α:Sort _} {h:Decidable False} (t e:α):(if False then t else e)=e:=if_false t e
theorem ae7 {α:Sort _} {β:Sort _} {a b:α} (f:α→β) (h:a=b):f a=f b:=congrArg f h
theorem al6 {α:Type _} [BEq α] [LawfulBEq α] {a b:α}:(a==b)=true↔a=b:=beq_iff_eq
theorem aj' {p:Prop} [h:Decidable p] (k:decide p=true):p:=of_decide_eq_true k
theorem i8 {p:Prop} [h:Decidable p]:(decide p=true)=p:=decide_eq_true_eq
theorem C {α:Sort u} {a:α}:a=a:=Eq.refl a
theorem yi {p:Prop} (h:p:=by rw [List.length_take,cy];omega):p:=h
theorem uz {p:Prop} (h:p:=by rw [List.length_take];omega):p:=h
theorem s8 {p:Prop} (h:p:=by simpa using ad):p:=h
theorem vU {p:Prop} (h:p:=by simpa using ab):p:=h
theorem e2 {p:Prop} (h:p:=by simpa using h):p:=h
theorem cV {p:Prop} (h:p:=by simp;omega):p:=h
theorem ot {p:Prop} (h:p:=by cases h):p:=h
theorem af {p:Prop} (h:p:=by omega):p:=h
theorem ba {p:Prop} (h:p:=by simp):p:=h
inductive hd where
 | normal
 | exit (id:Nat)
 | ret
 | panic (chain:List PanicEntry)
def qY (P:Program) (m:Machine) (b:Frame) (k:List Item) (cs:List Frame):hd→Act→World→Prop
  | .normal,a,w=>Steps P m (lone (b.atR a k) cs w)
  | .exit id,a,w=>(∀ k',exitTo id k=some k'→Steps P m (lone (b.atR a k') cs w)) ∧
      (exitTo id k=none→∃ k₁,exitTo id k₁=none∧Steps P m (lone (b.atR a (.code (.exit id)::k₁)) cs w))
  | .ret,a,w=>∃ k₁,Steps P m (lone (b.atR a (.code .ret::k₁)) cs w)
  | .panic dJ,a,w=>∃ k₁,Steps P m (lone { b.atR a k₁ with mode := .panicking dJ } cs w)
theorem qY.of_steps {P:Program} {m m₁:Machine} {b:Frame} {k:List Item} {cs:List Frame} {e:hd} {a:Act} {w:World}
  (h:Steps P m m₁) (e3:qY P m₁ b k cs e a w):qY P m b k cs e a w:=by
 cases e with
 | normal=>exact h.trans e3
 | exit id=>exact ⟨fun k' aE=>h.trans (e3.1 k' aE),fun aE=>let ⟨k₁,U,ad⟩:=e3.2 aE;⟨k₁,U,h.trans ad⟩⟩
 | ret=>obtain ⟨k₁,ar⟩:=e3;exact ⟨k₁,h.trans ar⟩
 | panic dJ=>obtain ⟨k₁,ar⟩:=e3;exact ⟨k₁,h.trans ar⟩
def jZ (P:Program) (b:Frame) (c:Code) (Q:hd→Act→World→Prop) (a:Act) (w:World):Prop:=
 ∀ (k:List Item) (cs:List Frame),∃ e c7 w',Q e c7 w'∧qY P (lone (b.atR a (.code c::k)) cs w) b k cs e c7 w'
section rules
variable {P:Program} {b:Frame} {Q:hd→Act→World→Prop} {a:Act} {w:World}
theorem mq {c:Code} {pn:hd→Act→World→Prop} (h:jZ P b c Q a w) (br:∀ e a w,Q e a w→pn e a w):jZ P b c pn a w:=
 fun k cs=>let ⟨e,c7,w',q,r⟩:=h k cs;⟨e,c7,w',br _ _ _ q,r⟩
theorem RF (h:Q .normal a w):jZ P b .skip Q a w:=fun _ _=>⟨.normal,a,w,h,.one stepR_skip⟩
theorem RG (h:Q .ret a w):jZ P b .ret Q a w:=fun k _=>⟨.ret,a,w,h,k,.refl P _⟩
theorem RH {id:Nat} (h:Q (.exit id) a w):jZ P b (.exit id) Q a w:=
 fun k _=>⟨.exit id,a,w,h,fun _ aE => .one (stepR_exit aE),fun aE=>⟨k,aE,.refl P _⟩⟩
def hd.andThen (next:Act→World→Prop) (Q:hd→Act→World→Prop):hd→Act→World→Prop
 | .normal,a,w=>next a w
 | e,a,w=>Q e a w
theorem qY.Ko {m:Machine} {c:Code} {k:List Item} {cs:List Frame} {e:hd} {a:Act} {w:World} (x:Item) (ab:x.plain=true)
  (he:e ≠ .normal) (h:qY P m b (x::k) cs e a w):qY P m b k cs e a w:=by
 cases e with
 | normal=>exact absurd C he
 | exit id=>exact ⟨fun k' aE=>h.1 k' (by cases x<;>simp_all [exitTo,Item.plain]),fun aE=>h.2 (by cases x<;>simp_all [exitTo,Item.plain])⟩
 | ret=>exact h
 | panic dJ=>exact h
theorem RI {x y:Code} (h:jZ P b x (hd.andThen (jZ P b y Q) Q) a w):jZ P b (.seq x y) Q a w:=by
 intro k cs;obtain ⟨e,iQ,w₁,br,gg⟩:=h (.code y::k) cs;by_cases he:e = .normal
 ·subst he
  obtain ⟨z1,CK,hT,uA,uB⟩:=br k cs;exact ⟨z1,CK,hT,uA,.of_steps (.head stepR_seq gg) uB⟩
 ·have vV:Q e iQ w₁:=by cases e<;>first|exact absurd C he|exact br
  exact ⟨e,iQ,w₁,vV,.of_steps (.one stepR_seq) (qY.Ko (c:=y) (.code y) C he gg)⟩
theorem RJ {c:Operand} {x y:Code} {t:Bool} (aB:a.eval c = .bool t) (h:jZ P b (if t then x else y) Q a w):jZ P b (.cond c x y) Q a w:=
 fun k cs=>let ⟨e,c7,w',q,r⟩:=h k cs;⟨e,c7,w',q,.of_steps (.one (stepR_cond aB)) r⟩
def hd.inBlock (id:Nat) (Q:hd→Act→World→Prop):hd→Act→World→Prop
 | .exit k0,a,w=>if k0=id then Q .normal a w else Q (.exit k0) a w
 | e,a,w=>Q e a w
theorem RK {id:Nat} {c:Code} (h:jZ P b c (hd.inBlock id Q) a w):jZ P b (.block id c) Q a w:=by
 intro k cs;obtain ⟨e,iQ,w₁,br,gg⟩:=h (.inBlock id::k) cs;cases e with
 | normal=>exact ⟨.normal,iQ,w₁,br,.head stepR_block (Steps.trans gg (.one stepR_inBlock))⟩
 | exit k0=>
  by_cases s9:k0=id
  ·simp only [hd.inBlock,s9,ag7] at br
   exact ⟨.normal,iQ,w₁,br,.head stepR_block (gg.1 k (by simp [exitTo,s9]))⟩
  ·simp only [hd.inBlock,s9,ah'] at br
   have cJ:(id==k0)=false:=by simp;exact fun h=>s9 h.symm
   refine ⟨.exit k0,iQ,w₁,br,fun k' aE => .head stepR_block (gg.1 k' (by simp [exitTo,cJ,aE])),fun aE=>?_⟩;obtain ⟨k₁,U,ad⟩:=gg.2 (by simp [exitTo,cJ,aE]);exact ⟨k₁,U,.head stepR_block ad⟩
 | ret=>obtain ⟨k₁,ar⟩:=gg;exact ⟨.ret,iQ,w₁,br,k₁,.head stepR_block ar⟩
 | panic dJ=>obtain ⟨k₁,ar⟩:=gg;exact ⟨.panic dJ,iQ,w₁,br,k₁,.head stepR_block ar⟩
end rules
def Round (P:Program) (l:Nat) (f:FuncId) (tmps:Array Value) (hl body:Code) (w:World) (R:Ending→World→Prop):Prop:=
 ∀ (c:Frame) (cs:List Frame),∃ e w',R e w' ∧
  match e with
  | .returned v=>Steps P (lone (Frame.round l f tmps hl body .normal) (c::cs) w) (lone (c.finish v) cs w')
  | .panicked dJ=>Steps P (lone (Frame.round l f tmps hl body .normal) (c::cs) w) (lone (c.raise dJ) cs w')
  | .outgrown=>False
def s' (P:Program) (f:FuncId) (args:Array Value) (w:World) (R:Ending→World→Prop):Prop:=
 Calls P f args w fun e w'=>e ≠ .outgrown∧R e w'
theorem s'.mono {P:Program} {f:FuncId} {args:Array Value} {w:World} {R dw:Ending→World→Prop} (h:s' P f args w R)
  (aD:∀ e w',R e w'→dw e w'):s' P f args w dw:=Calls.mono h fun e w' ⟨U,ad⟩=>⟨U,aD e w' ad⟩
def z6 (P:Program) (gD:Next) (w:World) (R:Ending→World→Prop):Prop:=
 match gD with
 | .value v=>R (.returned v) w
 | .skip=>R (.returned undef) w
 | .enter f args=>s' P f args w R
 | .round l f tmps hl body=>Round P l f tmps hl body w R
 | _=>False
def p7 (P:Program) (r:Result Next) (R:Ending→World→Prop):Prop:=
 match r with
 | .ok gD w'=>z6 P gD w' R
 | .halt (.panic v) w'=>R (.panicked [{ v,recovered:=false }]) w'
 | _=>False
theorem Round.mono {P:Program} {l:Nat} {f:FuncId} {tmps:Array Value} {hl body:Code} {w:World} {R dw:Ending→World→Prop}
  (h:Round P l f tmps hl body w R) (aD:∀ e w',R e w'→dw e w'):Round P l f tmps hl body w dw :=
 fun c cs=>let ⟨e,w',r,s⟩:=h c cs;⟨e,w',aD _ _ r,s⟩
theorem z6.mono {P:Program} {gD:Next} {w:World} {R dw:Ending→World→Prop} (h:z6 P gD w R)
  (aD:∀ e w',R e w'→dw e w'):z6 P gD w dw:=by
 cases gD<;>first|exact aD _ _ h|exact s'.mono h aD|exact Round.mono h aD|exact h.elim
theorem p7.mono {P:Program} {r:Result Next} {R dw:Ending→World→Prop} (h:p7 P r R) (aD:∀ e w',R e w'→dw e w'):p7 P r dw:=by
 unfold p7 at h ⊢;split at h
 ·exact z6.mono h aD
 ·exact aD _ _ h
 ·exact h.elim
def gJ (o:Oper):Bool:=match o.op with | .defer _=>false|_=>true
section ops
variable {P:Program} {b:Frame} {a:Act} {k:List Item} {cs:List Frame} {w:World} {ops:Array Oper}
theorem RL {i:Nat} {rest:List Nat} {o:Oper} {R:Ending→World→Prop} (ai:ops[i]? = some o) (hw:Region.wanted o (yielded ops a.tmps)=true)
  (ax:gJ o=true) (h:p7 P ((execOp a.eval o).run P w) R) :
  ∃ e w',R e w' ∧
   match e with
   | .returned v=>Steps P (lone (b.atR a (.inRegion ops (i::rest)::k)) cs w) (lone (b.atR (a.put o.dst v) (.inRegion ops rest::k)) cs w')
   | .panicked dJ=>∃ k₁,Steps P (lone (b.atR a (.inRegion ops (i::rest)::k)) cs w) (lone { b.atR a k₁ with mode := .panicking dJ } cs w')
   | .outgrown=>False:=by
 have av:=stepGR_op (P:=P) (b:=b) (k:=k) (cs:=cs) (w:=w) (rest:=rest) ai hw;have RM:o.semAt b.roundOf a.eval=execOp a.eval o:=Oper.semAt_eq _ _ _ (fun c aB=>by simp [gJ,aB] at ax);rw [RM] at av;have qZ:∀ v,(b.atR a (.inRegion ops (i::rest)::k)).finish v=b.atR (a.put o.dst v) (.inRegion ops rest::k):=by
  intro v;rw [Frame.finish_atR,ai];rfl
 unfold p7 at h;split at h
 ·rename_i gD w' aD
  cases gD with
  | value v=>
   refine ⟨.returned v,w',h,.one (step_lone_go ?_)⟩;rw [av,← qZ];simp [stepG.apply,aD]
  | skip=>
   refine ⟨.returned undef,w',h,.one (step_lone_go ?_)⟩;rw [av,← qZ];simp [stepG.apply,aD]
  | enter f args=>
   obtain ⟨e,mr,hn,⟨kg,dM⟩,ta,_,z7⟩:=h (b.atR a (.inRegion ops (i::rest)::k)::cs);have tb:step P (lone (b.atR a (.inRegion ops (i::rest)::k)) cs w) =
     .next (lone (Frame.enter P f args .normal) (b.atR a (.inRegion ops (i::rest)::k)::cs) w'):=
    step_lone_go (by rw [av];simp [stepG.apply,aD,Frame.atR])
   cases e with
   | returned v=>
    refine ⟨.returned v,mr,dM,.head tb (ta.trans (.one ?_))⟩;rw [← qZ];exact step_leave_returned z7
   | panicked dJ=>
    refine ⟨.panicked dJ,mr,dM,.inRegion ops (i::rest)::k,.head tb (ta.trans (.one ?_))⟩;rw [← Frame.raise_atR];exact step_leave_panicked z7
   | outgrown=>exact absurd C kg
  | round l f tmps hl body=>
   obtain ⟨e,mr,dM,ta⟩:=h (b.atR a (.inRegion ops (i::rest)::k)) cs;have tb:step P (lone (b.atR a (.inRegion ops (i::rest)::k)) cs w) =
     .next (lone (Frame.round l f tmps hl body .normal) (b.atR a (.inRegion ops (i::rest)::k)::cs) w'):=
    step_lone_go (by rw [av];simp [stepG.apply,aD,Frame.atR])
   cases e with
   | returned v=>exact ⟨.returned v,mr,dM,.head tb (by rw [← qZ];exact ta)⟩
   | panicked dJ=>exact ⟨.panicked dJ,mr,dM,.inRegion ops (i::rest)::k,.head tb (by rw [← Frame.raise_atR];exact ta)⟩
   | outgrown=>exact ta.elim
  | _=>exact h.elim
 ·rename_i v w' aD
  refine ⟨.panicked [{ v,recovered:=false }],w',h,.inRegion ops (i::rest)::k,.one (step_lone_go ?_)⟩;rw [av,← Frame.raise_atR];simp [stepG.apply,aD]
 ·exact h.elim
end ops
def jh (P:Program) (ops:Array Oper) (Q:hd→Act→World→Prop):List Nat→Act→World→Prop
 | [],a,w=>Q .normal a w
 | i::rest,a,w=>
  match ops[i]? with
  | none=>jh P ops Q rest a w
  | some o=>
   if Region.wanted o (yielded ops a.tmps) then
    gJ o=true∧p7 P ((execOp a.eval o).run P w) fun
     | .returned v,w'=>jh P ops Q rest (a.put o.dst v) w'
     | .panicked dJ,w'=>Q (.panic dJ) a w'
     | .outgrown,_=>False
   else jh P ops Q rest (a.put o.dst undef) w
theorem Kp {P:Program} {ops:Array Oper} {Q:hd→Act→World→Prop} (b:Frame) (k:List Item) (cs:List Frame) (l:List Nat) :
  ∀ (a:Act) (w:World),jh P ops Q l a w→∃ e c7 w',Q e c7 w'∧qY P (lone (b.atR a (.inRegion ops l::k)) cs w) b k cs e c7 w':=by
 induction l with
 | nil=>exact fun a w h=>⟨.normal,a,w,h,.one stepR_region_end⟩
 | cons i rest a1=>
  intro a w h;simp only [jh] at h;cases ai:ops[i]? with
  | none=>
   simp only [ai] at h;obtain ⟨e,c7,w',br,gg⟩:=a1 a w h;have ar:=stepR_op_skip (P:=P) (b:=b) (a:=a) (k:=k) (cs:=cs) (w:=w) (ops:=ops) (i:=i) (rest:=rest) (by simp [ai]);simp only [ai,Option.bind_none,Act.put] at ar;exact ⟨e,c7,w',br,.of_steps (.one ar) gg⟩
  | some o=>
   simp only [ai] at h;by_cases hw:Region.wanted o (yielded ops a.tmps)=true
   ·simp only [hw,ag7] at h
    obtain ⟨e,w',dM,aI⟩:=RL (b:=b) (k:=k) (cs:=cs) (rest:=rest) ai hw h.1 h.2;cases e with
    | returned v=>
     obtain ⟨e,c7,mr,br,gg⟩:=a1 _ _ dM;exact ⟨e,c7,mr,br,.of_steps aI gg⟩
    | panicked dJ=>exact ⟨.panic dJ,a,w',dM,aI⟩
    | outgrown=>exact aI.elim
   ·simp only [hw,ah',af8] at h
    obtain ⟨e,c7,w',br,gg⟩:=a1 _ _ h;have ar:=stepR_op_skip (P:=P) (b:=b) (a:=a) (k:=k) (cs:=cs) (w:=w) (ops:=ops) (i:=i) (rest:=rest)
     (by simp [ai];simpa using hw)
    simp only [ai,aj5] at ar;exact ⟨e,c7,w',br,.of_steps (.one ar) gg⟩
theorem RN {P:Program} {b:Frame} {id:Nat} {ops:Array Oper} {Q:hd→Act→World→Prop} {a:Act} {w:World}
  (h:jh P ops Q (ag3 ops.size) a w):jZ P b (.region id ops false) Q a w:=
 fun k cs=>let ⟨e,c7,w',q,r⟩:=Kp b k cs _ a w h;⟨e,c7,w',q,.of_steps (.one stepR_region) r⟩
theorem RO {P:Program} {b:Frame} {id:Nat} {ops:Array Oper} {Q:hd→Act→World→Prop} {a:Act} {w:World}
  (h:∀ t,jh P ops Q (Region.schedule (P.follows .mixedOrders) ops t) a { w with drawn:=w.drawn+1 }):jZ P b (.region id ops true) Q a w:=
 fun k cs=>let ⟨e,c7,w',q,r⟩:=Kp b k cs _ a _ (h _);⟨e,c7,w',q,.of_steps (.one stepR_region_draw) r⟩
def hA (w:World):List Nat→World
 | []=>w
 | d::ds=>hA { w with heap:=w.heap.setIfInBounds d (.deferred none) } ds
def marksOf (ds:List Nat):List Deferred:=ds.map fun d=>{ target := .collected d,args := #[] }
theorem FT {P:Program} {cs:List Frame}:∀ (ds:List Nat) (hn:Frame) (w:World),hn.mode ≠ .run→hn.defers=marksOf ds →
  (∀ d∈ds,w.heap[d]? = some (.deferred (some [])))→ds.Nodup→Steps P (lone hn cs w) (lone { hn with defers:=[] } cs (hA w ds)):=by
 intro ds
 induction ds with
 | nil=>
  intro hn w _ ax _ _;have:({ hn with defers:=[] }:Frame)=hn:=by cases hn;simp_all [marksOf]
  rw [this];exact .refl P _
 | cons d ds a1=>
  intro hn w hm ax an az;have lU:w.heap[d]? = some (.deferred (some [])):=an d (i6 ..);have aN:(Instr.takeDeferred d).run P w = .ok [] { w with heap:=w.heap.setIfInBounds d (.deferred none) }:=by
   unfold Instr.takeDeferred;simp only [ac',getObj,setObj,ax3,lU,Result.andThen];rfl
  have U:step P (lone hn cs w) = .next (lone { hn with defers:=marksOf ds } cs { w with heap:=w.heap.setIfInBounds d (.deferred none) }):=by
   refine step_lone_go ?_;cases vW:hn.mode with
   | run=>exact absurd vW hm
   | returning=>simp [stepG,unwind,vW,ax,marksOf,au7,aN]
   | panicking chain=>simp [stepG,unwind,vW,ax,marksOf,au7,aN]
  have e7:=as0.1 az;refine .head U (a1 { hn with defers:=marksOf ds } _ hm C ?_ e7.2);intro c9 cp;have cJ:d≠c9:=fun e=>e7.1 (e ▸ cp)
  simp only [ag5,cJ,ah'];exact an c9 (i0 _ cp)
def RP (P:Program) (fn:Func) (R:Ending→World→Prop):hd→Act→World→Prop
  | .normal,a,w | .ret,a,w=>∃ ds,a.defers=marksOf ds∧ds.Nodup∧(∀ d∈ds,w.heap[d]? = some (.deferred (some []))) ∧
      ∃ v,(results fn a.tmps).run P (hA w ds) = .ok v (hA w ds)∧R (.returned v) (hA w ds)
  | .panic dJ,a,w=>∃ ds,a.defers=marksOf ds∧ds.Nodup∧(∀ d∈ds,w.heap[d]? = some (.deferred (some [])))∧R (.panicked dJ) (hA w ds)
  | .exit _,_,_=>False
theorem RQ {P:Program} {f:FuncId} {fn:Func} {c:Code} {args:Array Value} {w:World} {R:Ending→World→Prop}
    (a7:P.funcs[f]? = some fn) (an:fn.body=some c)
    (h:∀ b:Frame,b.roundOf=none→(P.funcs[b.fn]?).isSome=true→jZ P b c (RP P fn R) { tmps:=args++al5 (fn.ntmps-args.size) undef,defers:=[] } w) :
    s' P f args w R:=by
  intro cs
  let b:Frame:={ (default:Frame) with fn:=f,kind := .normal,roundOf:=none }
  have tb:Frame.enter P f args .normal =
      b.atR { tmps:=args++al5 (fn.ntmps-args.size) undef,defers:=[] } [.code c]:=by
    simp [Frame.enter,Frame.atR,a7,an,b]
  obtain ⟨e,c7,w',br,gg⟩:=h b rfl (by simp [b,a7]) [] cs;rw [← tb] at gg;cases e with
  | normal=>
    obtain ⟨ds,ax,az,kh,v,aD,dM⟩:=br
    exact ⟨.returned v,_,_,⟨by simp,dM⟩,Steps.trans (Steps.trans gg (.one (stepR_end C)))
      (FT ds { b.atR c7 [] with mode := .returning } w' ba ax kh az),rfl,rfl,rfl,rfl,fn,a7,aD⟩
  | ret=>
    obtain ⟨ds,ax,az,kh,v,aD,dM⟩:=br;obtain ⟨k₁,ar⟩:=gg
    exact ⟨.returned v,_,_,⟨by simp,dM⟩,Steps.trans (Steps.trans ar (.one (stepR_ret C)))
      (FT ds { b.atR c7 (.code .ret::k₁) with mode := .returning } w' ba ax kh az),rfl,rfl,rfl,rfl,fn,a7,aD⟩
  | panic dJ=>
    obtain ⟨ds,ax,az,kh,dM⟩:=br;obtain ⟨k₁,ar⟩:=gg;exact ⟨.panicked dJ,_,_,⟨by simp,dM⟩,Steps.trans ar (FT ds { b.atR c7 k₁ with mode := .panicking dJ } w' ba ax kh az),rfl,rfl,rfl,fn,a7⟩
  | exit id=>exact br.elim
def RR (P:Program) (l:Nat) (R:Ending→World→Prop):hd→Act→World→Prop
 | .normal,_,w=>∃ v w',(Instr.endRound l none).run P w = .ok v w'∧R (.returned v) w'
 | .ret,_,w=>∃ v w',(Instr.endRound l (some .ret)).run P w = .ok v w'∧R (.returned v) w'
 | .exit id,_,w=>∃ v w',(Instr.endRound l (some (.exit id))).run P w = .ok v w'∧R (.returned v) w'
 | .panic dJ,a,w=>a.defers=[]∧R (.panicked dJ) w
theorem RS {P:Program} {l:Nat} {f:FuncId} {fn:Func} {tmps:Array Value} {hl body:Code} {w:World} {R:Ending→World→Prop}
  (a7:P.funcs[f]? = some fn)
  (h:∀ b:Frame,b.roundOf=some l→b.fn=f→jZ P b hl (hd.andThen (fun iQ w₁=>∃ hT,(Instr.beginRound l).run P w₁ = .ok () hT∧jZ P b body (RR P l R) iQ hT) (fun _ _ _=>False))
   { tmps:=tmps,defers:=[] } w):Round P l f tmps hl body w R:=by
 intro c cs
 let b:Frame:={ (default:Frame) with fn:=f,kind := .normal,roundOf:=some l }
 have r7:Frame.round l f tmps hl body .normal=b.atR { tmps:=tmps,defers:=[] } [.code hl,.beginRound,.code body]:=by
  simp [Frame.round,Frame.atR,b]
 obtain ⟨e,iQ,w₁,br,gg⟩:=h b rfl rfl [.beginRound,.code body] (c::cs);rw [← r7] at gg;by_cases he:e = .normal
 ·subst he
  obtain ⟨hT,ie,tc⟩:=br;have s1:=Steps.one (stepR_beginRound (P:=P) (b:=b) (a:=iQ) (k:=[.code body]) (cs:=c::cs) C ie);obtain ⟨z1,CK,iR,uA,uB⟩:=tc [] (c::cs);cases z1 with
  | normal=>
   obtain ⟨v,lV,uC,dM⟩:=uA;exact ⟨.returned v,lV,dM,(Steps.trans gg s1).trans (Steps.trans uB (.one (stepR_round_end C C uC)))⟩
  | ret=>
   obtain ⟨v,lV,uC,dM⟩:=uA;obtain ⟨k₁,ar⟩:=uB;exact ⟨.returned v,lV,dM,(Steps.trans gg s1).trans (Steps.trans ar (.one (stepR_round_ret C C uC)))⟩
  | exit id=>
   obtain ⟨v,lV,uC,dM⟩:=uA;obtain ⟨k₁,aE,ar⟩:=uB.2 rfl;exact ⟨.returned v,lV,dM,(Steps.trans gg s1).trans (Steps.trans ar (.one (stepR_round_exit C C aE uC)))⟩
  | panic dJ=>
   obtain ⟨ax,dM⟩:=uA;obtain ⟨k₁,ar⟩:=uB;refine ⟨.panicked dJ,iR,dM,(Steps.trans gg s1).trans (Steps.trans ar (.one ?_))⟩;exact step_lone_go (by simp [stepG,unwind,Frame.catches,Frame.atR,ax,b,a7])
 ·cases e<;>first|exact absurd C he|exact br.elim
inductive bN where
 | nil
 | clip
 | bb
 | own (b:Nat)
 deriving DecidableEq
inductive ag where
 | any
 | bool (b:Bool)
 | int (k:IntKind) (n:Int)
 | str (s:List UInt8)
 | mu
 | ptr (b o:Nat)
 | bw (cells:List ag) (off:Nat)
 | mv (b:Nat) (cells:List ag)
 | aA (sz:Nat) (xs:List ag) (own:bN)
 | CL (b n:Nat)
 | td
 | map (b:Nat)
 | func (f:FuncId) (first cap:List ag)
 | hG (v:Value)
 | uD
 | iface (t:TypeId) (v:ag)
 | ou
 | agg (cells:List ag)
 | cw (vs:List ag)
abbrev bV:=Nat→Nat→Prop
def flat (vs:List Value):List Value:=vs.flatMap fun v=>v.cells.toList
def vX (w:World) (p:bV) (b o:Nat) (vs:List Value):Prop:=∀ i v,vs[i]? = some v→p b (o+i)∧w.cell? ⟨b,o+i,none⟩=some v
def _root_.Go.World.k1 (w:World) (r:Nat):Option (TypeId×Nat):=
 match w.heap[r]? with
 | some (.cells c elem (0,0))=>some (elem,c.size)
 | _=>none
mutual
inductive Rel (w:World) (p:bV):Value→ag→Prop
 | any (v:Value):Rel w p v .any
 | bool (b:Bool):Rel w p (.bool b) (.bool b)
 | int (k:IntKind) (n:Int):Rel w p (.int k n) (.int k n)
 | str (b:ByteArray) (s:List UInt8) (h:b.data.toList=s):Rel w p (.string b) (.str s)
 | mu:Rel w p (.pointer none) .mu
 | ptr (b o:Nat):Rel w p (.pointer (some ⟨b,o,none⟩)) (.ptr b o)
 | bw (b base o off:Nat) (vs:List Value) (cells:List ag) (ai:o=base+off) (aB:vX w p b base vs) (aD:bH w p vs cells) :
   Rel w p (.pointer (some ⟨b,o,none⟩)) (.bw cells off)
 | mv (b:Nat) (vs:List Value) (cells:List ag) (az:vs≠[]) (ar:∃ x,w.k1 b=some x) (aB:vX w p b 0 vs) (aD:bH w p vs cells):Rel w p (.pointer (some ⟨b,0,none⟩)) (.mv b cells)
 | h4 (sz:Nat) (own:bN) (h:∀ b,own ≠ .own b):Rel w p (.slice none 0 0) (.aA sz [] own)
 | iE (a:Addr) (sz:Nat) (own:bN) (h:own = .bb∨own = .clip):Rel w p (.slice (some a) 0 0) (.aA sz [] own)
 | aA (g off n cap sz:Nat) (vs:List Value) (xs:List ag) (own:bN) (az:own ≠ .nil) (aC:n=xs.length) (aB:vX w p g off (flat vs)) (aD:bH w p vs xs)
   (ar:∀ v∈vs,v.cells.size=sz) (hm:n≤9223372036854775807) (aE:n≤cap) (cy:own = .clip→cap=n)
   (ai:∀ b,own = .own b→b=g∧off=0∧∃ e,w.k1 g=some (e,cap*sz)):Rel w p (.slice (some ⟨g,off,none⟩) n cap) (.aA sz xs own)
 | CL (b n cap:Nat) (hm:n≤9223372036854775807) (aE:n≤cap):Rel w p (.slice (some ⟨b,0,none⟩) n cap) (.CL b n)
 | td:Rel w p (.map none) .td
 | map (b:Nat):Rel w p (.map (some b)) (.map b)
 | func (f:FuncId) (as cs:Array Value) (first cap:List ag) (a6:bH w p as.toList first) (aB:bH w p cs.toList cap):Rel w p (.func (.func f) as cs) (.func f first cap)
 | hG (v:Value):Rel w p v (.hG v)
 | uD:Rel w p .nilFunc .uD
 | iface (t:TypeId) (v:Value) (x:ag) (h:Rel w p v x):Rel w p (.iface t v) (.iface t x)
 | ou:Rel w p .nilIface .ou
 | agg (cs:Array Value) (xs:List ag) (h:bH w p cs.toList xs):Rel w p (.agg cs) (.agg xs)
 | cw (vs:Array Value) (xs:List ag) (h:bH w p vs.toList xs):Rel w p (.tuple vs) (.cw xs)
inductive bH (w:World) (p:bV):List Value→List ag→Prop
 | nil:bH w p [] []
 | cons (v:Value) (x:ag) (vs:List Value) (xs:List ag) (h:Rel w p v x) (t:bH w p vs xs):bH w p (v::vs) (x::xs)
end
structure dg (w:World) (p:bV) (w':World) (bj:bV):Prop where
 os:w'.os=w.os
 tape:w'.tape=w.tape
 output:w'.output=w.output
 size:w.heap.size≤w'.heap.size
 ly:∀ b o,p b o→bj b o
 same:∀ b o,p b o→w'.cell? ⟨b,o,none⟩=w.cell? ⟨b,o,none⟩
 shape:∀ b x,w.k1 b=some x→w'.k1 b=some x
theorem dg.refl (w:World) (p:bV):dg w p w p:=⟨rfl,rfl,rfl,g8 _,fun _ _ h=>h,fun _ _ _=>rfl,fun _ _ h=>h⟩
theorem dg.trans {w w₁ hT:World} {p p₁ jw:bV} (h:dg w p w₁ p₁) (k:dg w₁ p₁ hT jw):dg w p hT jw:=
 ⟨k.os.trans h.os,k.tape.trans h.tape,k.output.trans h.output,am' h.size k.size,fun b o aF=>k.ly b o (h.ly b o aF),
  fun b o aF=>(k.same b o (h.ly b o aF)).trans (h.same b o aF),fun b x ab=>k.shape b x (h.shape b x ab)⟩
theorem vX.mono {w w':World} {p bj:bV} (hle:dg w p w' bj) {b o:Nat} {vs:List Value} (h:vX w p b o vs):vX w' bj b o vs:=
 fun i v aw=>let ⟨U,ad⟩:=h i v aw;⟨hle.ly _ _ U,(hle.same _ _ U).trans ad⟩
mutual
theorem Rel.mono {w w':World} {p bj:bV} (hle:dg w p w' bj) {v:Value} {x:ag} (h:Rel w p v x):Rel w' bj v x:=by
 cases h with
 | any v=>exact .any v
 | bool b=>exact .bool b
 | int k n=>exact .int k n
 | str b s h=>exact .str b s h
 | mu=>exact .mu
 | ptr b o=>exact .ptr b o
 | bw b base o off vs cells ai aB aD=>exact .bw b base o off vs cells ai (aB.mono hle) (aD.mono hle)
 | mv b vs cells az ar aB aD=>exact .mv b vs cells az (ar.imp fun x h=>hle.shape _ _ h) (aB.mono hle) (aD.mono hle)
 | h4 sz own h=>exact .h4 sz own h
 | iE a sz own h=>exact .iE a sz own h
 | aA g off n cap sz vs xs own az aC aB aD ar hm aE cy ai=>
  exact .aA g off n cap sz vs xs own az aC (aB.mono hle) (aD.mono hle) ar hm aE cy (fun b an=>let ⟨U,ad,e,al⟩:=ai b an;⟨U,ad,e,hle.shape _ _ al⟩)
 | CL b n cap hm aE=>exact .CL b n cap hm aE
 | td=>exact .td
 | map b=>exact .map b
 | func f as cs first cap a6 aB=>exact .func f as cs first cap (a6.mono hle) (aB.mono hle)
 | hG v=>exact .hG v
 | uD=>exact .uD
 | iface t v x h=>exact .iface t v x (h.mono hle)
 | ou=>exact .ou
 | agg cs xs h=>exact .agg cs xs (h.mono hle)
 | cw vs xs h=>exact .cw vs xs (h.mono hle)
theorem bH.mono {w w':World} {p bj:bV} (hle:dg w p w' bj) {vs:List Value} {xs:List ag} (h:bH w p vs xs):bH w' bj vs xs:=by
 cases h with
 | nil=>exact .nil
 | cons v x vs xs h t=>exact .cons v x vs xs (h.mono hle) (t.mono hle)
end
section RT
variable {w:World} {p:bV}
theorem bH.length {vs:List Value} {xs:List ag} (h:bH w p vs xs):vs.length=xs.length:=by
 induction vs generalizing xs with
 | nil=>cases h;rfl
 | cons v vs a1=>cases h with|cons _ x _ xs h t=>simp [a1 t]
theorem bH.get {vs:List Value} {xs:List ag} (h:bH w p vs xs) {i:Nat} {x:ag} (ab:xs[i]? = some x):∃ v,vs[i]? = some v∧Rel w p v x:=by
 induction vs generalizing xs i with
 | nil=>cases h;simp at ab
 | cons v vs a1=>
  cases h with
  | cons _ y _ ys h t=>
   cases i with
   | zero=>simp at ab;subst ab;exact ⟨v,rfl,h⟩
   | succ i=>simp at ab;obtain ⟨u,U,ad⟩:=a1 t ab;exact ⟨u,by simpa using U,ad⟩
theorem bH.append {vs us:List Value} {xs ys:List ag} (h:bH w p vs xs) (k:bH w p us ys):bH w p (vs++us) (xs++ys):=by
 induction vs generalizing xs with
 | nil=>cases h;exact k
 | cons v vs a1=>cases h with|cons _ x _ xs h t=>exact .cons _ _ _ _ h (a1 t)
theorem bH.take {vs:List Value} {xs:List ag} (h:bH w p vs xs) (n:Nat):bH w p (vs.take n) (xs.take n):=by
  induction vs generalizing xs n with
  | nil=>cases h;simp;exact .nil
  | cons v vs a1=>
    cases h with
    | cons _ x _ xs h t=>cases n with
      | zero=>exact .nil
      | succ n=>exact .cons _ _ _ _ h (a1 t n)
theorem bH.drop {vs:List Value} {xs:List ag} (h:bH w p vs xs) (n:Nat):bH w p (vs.drop n) (xs.drop n):=by
  induction vs generalizing xs n with
  | nil=>cases h;simp;exact .nil
  | cons v vs a1=>
    cases h with
    | cons _ x _ xs h t=>cases n with
      | zero=>exact .cons _ _ _ _ h t
      | succ n=>exact a1 t n
theorem bH.set {vs:List Value} {xs:List ag} (h:bH w p vs xs) (i:Nat) {v:Value} {x:ag} (aw:Rel w p v x):bH w p (vs.set i v) (xs.set i x):=by
  induction vs generalizing xs i with
  | nil=>cases h;exact .nil
  | cons u vs a1=>
    cases h with
    | cons _ y _ ys h t=>cases i with
      | zero=>exact .cons _ _ _ _ aw t
      | succ i=>exact .cons _ _ _ _ h (a1 t i)
theorem bH.replicate {v:Value} {x:ag} (h:Rel w p v x) (n:Nat):bH w p (t6 n v) (t6 n x):=by
 induction n with
 | zero=>exact .nil
 | succ n a1=>exact .cons _ _ _ _ h a1
end RT
abbrev Env:=List (Nat×ag)
def Env.get? : Env→Nat→Option ag
 | [],_=>none
 | (t,v)::e,n=>if af0 t n then some v else Env.get? e n
inductive dH where
 | box (t:TypeId) (cells:List ag)
 | row (t:TypeId) (sz n:Nat)
 | map (es:List (ag×ag))
 | lz (es:List (ag×ag)) (it:Nat) (left:List (ag×ag)) (cur:Option (ag×ag))
 | tick (m:Nat)
 | loop (r:Loop) (env:Env)
abbrev ao:=Nat→Option dH
def lW (w:World) (p:bV) (cQ:List MapEntry) (es:List (ag×ag)):Prop:=
 bH w p (cQ.map (·.key)) (es.map (·.1))∧bH w p (cQ.map (·.val)) (es.map (·.2))
def q0 (w:World) (p:bV) (b:Nat):dH→Prop
  | .box t cs=>∃ vs:Array Value,w.heap[b]? = some (.cells vs t (0,0))∧bH w p vs.toList cs∧∀ o,¬ p b o
  | .row t sz n=>∃ cur:Array Value,w.heap[b]? = some (.cells cur t (0,0))∧n*sz≤cur.size∧(∃ cap,cur.size=cap*sz)∧∀ o,p b o↔o<n*sz
  | .map es=>∃ cQ clock,w.heap[b]? = some (.map cQ clock)∧lW w p cQ.toList es∧(∀ e∈cQ.toList,e.born<clock)∧(cQ.toList.map (·.born)).Nodup
  | .lz es it left cur=>∃ (cQ:Array MapEntry) (clock:Nat) (seen:Array Nat),w.heap[b]? = some (.map cQ clock)∧w.heap[it]? = some (.mapIter (some b) clock seen clock)∧lW w p cQ.toList es ∧
      (∀ e∈cQ.toList,e.born<clock)∧(cQ.toList.map (·.born)).Nodup∧lW w p (cQ.toList.filter fun e => !seen.contains e.born) left ∧
      ∀ k v,cur=some (k,v)→∃ Kq e,seen.back? = some Kq∧cQ.find? (·.born==Kq)=some e∧Rel w p e.key k∧Rel w p e.val v
  | .tick m=>∃ since seen last,w.heap[b]? = some (.mapIter (some m) since seen last)
  | .loop r env=>w.heap[b]? = some (.loop r)∧∀ t v,env.get? t=some v→Rel w p (r.tmps.getD t undef) v
structure dx (w:World) (p:bV) (s:ao):Prop where
 obj:∀ b o,s b=some o→q0 w p b o
 lt:∀ b o,p b o→b<w.heap.size
theorem q0.q1 {w w':World} {p bj:bV} {b it:Nat} {es left:List (ag×ag)} {cur:Option (ag×ag)} (h:q0 w p b (.lz es it left cur)) (hle:dg w p w' bj) (an:w'.heap[b]? = w.heap[b]?) (aR:w'.heap[it]? = w.heap[it]?) :
  q0 w' bj b (.lz es it left cur):=by
 obtain ⟨cQ,clock,seen,U,ad,al,bf,bE,hf,ig⟩:=h;exact ⟨cQ,clock,seen,an.trans U,aR.trans ad,⟨al.1.mono hle,al.2.mono hle⟩,bf,bE,⟨hf.1.mono hle,hf.2.mono hle⟩,fun k v aB=>let ⟨st,e,dE,a2,a3,a4⟩:=ig k v aB;⟨st,e,dE,a2,a3.mono hle,a4.mono hle⟩⟩
theorem q0.z8 {w:World} {p:bV} {b it d:Nat} {es left:List (ag×ag)} {cur:Option (ag×ag)} (h:q0 w p b (.lz es it left cur)) {o:Obj} (ax:w.heap[d]? = some o) (ai:∀ m a s l,o ≠ .mapIter m a s l):it≠d:=by
 obtain ⟨cQ,clock,seen,U,ad,al⟩:=h;intro e;subst e;rw [ax] at ad;cases ad;exact ai _ _ _ _ C
structure Kept (s aj:ao) (w:World) (p:bV) (w':World) (bj:bV):Prop where
 heap:∀ b,b<w.heap.size→s b=none→w'.heap[b]? = w.heap[b]?
 k2:∀ b,b<w.heap.size→s b=none→aj b=none
 ly:∀ b o,b<w.heap.size→s b=none→bj b o→p b o
theorem Kept.refl (s:ao) (w:World) (p:bV):Kept s s w p w p:=⟨fun _ _ _=>rfl,fun _ _ h=>h,fun _ _ _ _ h=>h⟩
theorem Kept.trans {s s₁ dN:ao} {w w₁ hT:World} {p p₁ jw:bV} (ar:w.heap.size≤w₁.heap.size) (h:Kept s s₁ w p w₁ p₁) (k:Kept s₁ dN w₁ p₁ hT jw):Kept s dN w p hT jw:=
  ⟨fun b an az=>(k.heap b (al2 an ar) (h.k2 b an az)).trans (h.heap b an az),
   fun b an az=>k.k2 b (al2 an ar) (h.k2 b an az),
   fun b o an az aF=>h.ly b o an az (k.ly b o (al2 an ar) (h.k2 b an az) aF)⟩
def yj:Value→Option ag
 | .bool b=>some (.bool b)
 | .int k n=>some (.int k n)
 | .string s=>some (.str s.data.toList)
 | .pointer none=>some .mu
 | .slice none 0 0=>some (.aA 0 [] .nil)
 | .map none=>some .td
 | .nilFunc=>some .uD
 | .nilIface=>some .ou
 | .tuple vs=>if vs.isEmpty then some (.cw []) else none
 | _=>none
def aM (env:Env):Operand→Option ag
 | .tmp t=>env.get? t
 | .const v=>yj v
 | .func f=>some (.func f [] [])
 | .global _=>none
theorem FU {w:World} {p:bV} {v:Value} {x:ag} (h:yj v=some x):Rel w p v x:=by
 unfold yj at h;split at h<;>first|(cases h;done)|(cases h;first|exact .bool _|exact .int _ _|exact .str _ _ C|exact .mu|exact .h4 _ _ (fun _=>by simp)|exact .td|exact .uD|exact .ou)|skip
 rename_i vs;split at h
 ·rename_i he
  cases h;have:vs = #[]:=by simpa using he
  subst this;exact .cw _ _ .nil
 ·cases h
abbrev fV:=Nat×List Deferred
structure dI (N:Nat) (B:fV) (ro:Option Nat) (env:Env) (s:ao) (a:Act) (w:World) (p:bV):Prop where
 size:a.tmps.size=N
 env:∀ t v,env.get? t=some v→Rel w p (a.tmps.getD t undef) v
 wf:dx w p s
 defs:∃ ds,a.defers=marksOf ds++B.2∧ds.Nodup∧∀ d∈ds,B.1≤d∧w.heap[d]? = some (.deferred (some []))∧s d=none
 round:∀ l,ro=some l→a.defers=[]∧(∃ r,w.heap[l]? = some (.loop r))∧s l=none
 base:B.1≤w.heap.size
theorem dI.aM {N:Nat} {B:fV} {ro:Option Nat} {env:Env} {s:ao} {a:Act} {w:World} {p:bV} (h:dI N B ro env s a w p) {o:Operand} {x:ag} (ab:aM env o=some x) :
  Rel w p (a.eval o) x:=by
 cases o with
 | tmp t=>exact h.env t x ab
 | const v=>exact FU ab
 | func f=>simp [Go.Proofs.YtnafpeohfbglmaaGreat.aM] at ab;subst ab;exact .func f #[] #[] [] [] .nil .nil
 | global g=>simp [Go.Proofs.YtnafpeohfbglmaaGreat.aM] at ab
theorem dI.step {N:Nat} {B:fV} {ro:Option Nat} {env:Env} {s aj:ao} {a:Act} {w w':World} {p bj:bV} (h:dI N B ro env s a w p)
  (hle:dg w p w' bj) (aE:Kept s aj w p w' bj) (cf:dx w' bj aj):dI N B ro env aj a w' bj:=by
 obtain ⟨ds,U,ad,al⟩:=h.defs;refine ⟨h.size,fun t v aw=>(h.env t v aw).mono hle,cf,⟨ds,U,ad,fun d ax=>?_⟩,fun l aC=>?_,am' h.base hle.size⟩
 ·obtain ⟨cG,lU,ar⟩:=al d ax
  have au:d<w.heap.size:=(i9.1 lU).1;exact ⟨cG,(aE.heap d au ar).trans lU,aE.k2 d au ar⟩
 ·obtain ⟨ax,⟨r,aD⟩,ar⟩:=h.round l aC
  have au:l<w.heap.size:=(i9.1 aD).1;exact ⟨ax,⟨r,(aE.heap l au ar).trans aD⟩,aE.k2 l au ar⟩
theorem dI.put {N:Nat} {B:fV} {ro:Option Nat} {env:Env} {s:ao} {a:Act} {w:World} {p:bV} (h:dI N B ro env s a w p) {d:Nat} (ax:d<N) {v:Value} {x:ag}
  (aw:Rel w p v x):dI N B ro ((d,x)::env) s (a.put (some d) v) w p:=by
 refine ⟨by simp [Act.put,h.size],fun t y ay=>?_,h.wf,h.defs,h.round,h.base⟩;simp only [Env.get?] at ay;split at ay
 ·rename_i he
  have vY:d=t:=ae0 he;cases ay;subst vY;have cp:d<a.tmps.size:=h.size.symm ▸ ax;simpa [Act.put,ag1,ag5,cp] using aw
 ·rename_i he
  have vY:d≠t:=fun e=>he (by subst e;simp)
  have:=h.env t y ay;simpa [Act.put,ag1,ag5,vY] using this
inductive b9 where
 | normal
 | exit (id:Nat)
 | ret
 | panic (v:ag)
def yk (v:Value) (dJ:List PanicEntry):Prop:=∃ rest,dJ={ v,recovered:=false }::rest∧∀ e∈rest,e.goexit=false
theorem yk.one (v:Value):yk v [{ v,recovered:=false }]:=⟨[],rfl,fun _ h=>by cases h⟩
inductive yl (w:World) (p:bV):hd→b9→Prop
 | normal:yl w p .normal .normal
 | exit (id:Nat):yl w p (.exit id) (.exit id)
 | ret:yl w p .ret .ret
 | panic (v:Value) (x:ag) (dJ:List PanicEntry) (aB:yk v dJ) (h:Rel w p v x):yl w p (.panic dJ) (.panic x)
def kz (N:Nat) (B:fV) (ro:Option Nat) (s:ao) (w:World) (p:bV) (Q:b9→Env→ao→Prop) (e:hd) (c7:Act) (w':World):Prop:=
 ∃ x e0 aj bj,yl w' bj e x∧Q x e0 aj∧dI N B ro e0 aj c7 w' bj∧dg w p w' bj∧Kept s aj w p w' bj
theorem kz.after {N:Nat} {B:fV} {ro:Option Nat} {s s₁:ao} {w w₁ w':World} {p p₁:bV} {Q:b9→Env→ao→Prop} {e:hd} {c7:Act}
  (hle:dg w p w₁ p₁) (aE:Kept s s₁ w p w₁ p₁) (h:kz N B ro s₁ w₁ p₁ Q e c7 w'):kz N B ro s w p Q e c7 w' :=
 let ⟨x,e0,aj,bj,U,ad,al,bf,bE⟩:=h
 ⟨x,e0,aj,bj,U,ad,al,hle.trans bf,aE.trans hle.size bE⟩
def ae (P:Program) (N:Nat) (c:Code) (Q:b9→Env→ao→Prop) (env:Env) (s:ao):Prop:=
 ∀ (b:Frame) (B:fV) (a:Act) (w:World) (p:bV),(P.funcs[b.fn]?).isSome=true→dI N B b.roundOf env s a w p→jZ P b c (kz N B b.roundOf s w p Q) a w
section RU
variable {P:Program} {N:Nat} {Q:b9→Env→ao→Prop} {env:Env} {s:ao}
theorem ae.mono {c:Code} {pn:b9→Env→ao→Prop} (h:ae P N c Q env s) (br:∀ e env s,Q e env s→pn e env s):ae P N c pn env s:=
 fun b B a w p e4 aI=>mq (h b B a w p e4 aI) fun _ _ _ ⟨x,e0,aj,bj,U,ad,al⟩=>⟨x,e0,aj,bj,U,br _ _ _ ad,al⟩
theorem kz.here {B:fV} {ro:Option Nat} {a:Act} {w:World} {p:bV} {e:hd} {x:b9} (ab:yl w p e x) (br:Q x env s) (h:dI N B ro env s a w p) :
  kz N B ro s w p Q e a w:=⟨x,env,s,p,ab,br,h,.refl w p,.refl s w p⟩
theorem ae.skip (h:Q .normal env s):ae P N .skip Q env s:=fun _ _ _ _ _ _ aI=>RF (.here .normal h aI)
theorem ae.ret (h:Q .ret env s):ae P N .ret Q env s:=fun _ _ _ _ _ _ aI=>RG (.here .ret h aI)
theorem ae.exit {id:Nat} (h:Q (.exit id) env s):ae P N (.exit id) Q env s:=fun _ _ _ _ _ _ aI=>RH (.here (.exit id) h aI)
def b9.andThen (next:Env→ao→Prop) (Q:b9→Env→ao→Prop):b9→Env→ao→Prop
 | .normal,e,s=>next e s
 | x,e,s=>Q x e s
theorem ae.seq {x y:Code} (h:ae P N x (b9.andThen (ae P N y Q) Q) env s):ae P N (.seq x y) Q env s:=by
 intro b B a w p e4 aI;refine RI (mq (h b B a w p e4 aI) ?_);rintro e iQ w₁ ⟨CM,po,s₁,p₁,ab,br,lA,hle,aE⟩;cases ab with
 | normal=>exact mq (br b B iQ w₁ p₁ e4 lA) fun _ _ _ h=>h.after hle aE
 | exit id=>exact ⟨_,po,s₁,p₁,.exit id,br,lA,hle,aE⟩
 | ret=>exact ⟨_,po,s₁,p₁,.ret,br,lA,hle,aE⟩
 | panic v x dJ aB aw=>exact ⟨_,po,s₁,p₁,.panic v x dJ aB aw,br,lA,hle,aE⟩
theorem CN {w:World} {p:bV} {v:Value} {t:Bool} (h:Rel w p v (.bool t)):v = .bool t:=by cases h;rfl
theorem ae.cond {c:Operand} {x y:Code} {t:Bool} (aB:aM env c=some (.bool t)) (aN:t=true→ae P N x Q env s) (a7:t=false→ae P N y Q env s) :
  ae P N (.cond c x y) Q env s:=by
 intro b B a w p e4 aI;refine RJ (CN (aI.aM aB)) ?_;cases t
 ·exact a7 C b B a w p e4 aI
 ·exact aN C b B a w p e4 aI
theorem ae.fM {c:Operand} {x y:Code} (aB:aM env c=some (.bool true)) (h:ae P N x Q env s):ae P N (.cond c x y) Q env s:=ae.cond aB (fun _=>h) ba
theorem ae.gT {c:Operand} {x y:Code} (aB:aM env c=some (.bool false)) (h:ae P N y Q env s):ae P N (.cond c x y) Q env s:=ae.cond aB ba (fun _=>h)
def b9.inBlock (id:Nat) (Q:b9→Env→ao→Prop):b9→Env→ao→Prop
 | .exit k0,a,w=>if af0 k0 id then Q .normal a w else Q (.exit k0) a w
 | e,a,w=>Q e a w
theorem ae.block {id:Nat} {c:Code} (h:ae P N c (b9.inBlock id Q) env s):ae P N (.block id c) Q env s:=by
 intro b B a w p e4 aI;refine RK (mq (h b B a w p e4 aI) ?_);rintro e iQ w₁ ⟨CM,po,s₁,p₁,ab,br,lA,hle,aE⟩;cases ab with
 | normal=>exact ⟨_,po,s₁,p₁,.normal,br,lA,hle,aE⟩
 | exit k0=>
  by_cases s9:k0=id
  ·simp only [b9.inBlock,s9,at9,ag7] at br
   simp only [hd.inBlock,s9,ag7];exact ⟨_,po,s₁,p₁,.normal,br,lA,hle,aE⟩
  ·have an:af0 k0 id=false:=by
    cases RV:af0 k0 id with
    | false=>rfl
    | true=>exact absurd (ae0 RV) s9
   simp only [b9.inBlock,an,ah',af8] at br;simp only [hd.inBlock,s9,ah'];exact ⟨_,po,s₁,p₁,.exit k0,br,lA,hle,aE⟩
 | ret=>exact ⟨_,po,s₁,p₁,.ret,br,lA,hle,aE⟩
 | panic v x dJ aB aw=>exact ⟨_,po,s₁,p₁,.panic v x dJ aB aw,br,lA,hle,aE⟩
def aQ (x y:ag):Prop:=∀ w p v,Rel w p v x→Rel w p v y
theorem aQ.refl (x:ag):aQ x x:=fun _ _ _ h=>h
def Env.Sub:Env→Env→Prop
 | [],_=>True
 | (t,v)::e,env=>(∃ ff,env.get? t=some ff∧aQ ff v)∧Env.Sub e env
theorem Env.Sub.get {e env:Env} (h:Env.Sub e env) {t:Nat} {v:ag} (aw:e.get? t=some v):∃ ff,env.get? t=some ff∧aQ ff v:=by
 induction e with
 | nil=>simp [Env.get?] at aw
 | cons x e a1=>
  obtain ⟨bI,ff⟩:=x;simp only [Env.get?] at aw;split at aw
  ·rename_i he
   have vY:bI=t:=ae0 he;cases aw;subst vY;exact h.1
  ·exact a1 h.2 aw
theorem dI.sub {B:fV} {ro:Option Nat} {e:Env} {a:Act} {w:World} {p:bV} (ar:Env.Sub e env) (h:dI N B ro env s a w p):dI N B ro e s a w p:=
 ⟨h.size,fun t v aw=>let ⟨ff,U,ad⟩:=ar.get aw;ad _ _ _ (h.env t ff U),h.wf,h.defs,h.round,h.base⟩
theorem ae.sub {c:Code} (e:Env) (ar:Env.Sub e env) (h:ae P N c Q e s):ae P N c Q env s:=
 fun b B a w p e4 aI=>h b B a w p e4 (aI.sub ar)
def ao.Sub (aj s:ao):Prop:=∀ b,aj b=s b∨aj b=none
theorem dx.sub {aj:ao} {w:World} {p:bV} (ar:ao.Sub aj s) (h:dx w p s):dx w p aj :=
 ⟨fun b o an=>h.obj b o (by rcases ar b with e|e<;>simp_all),h.lt⟩
theorem ao.Sub.none {aj:ao} (ar:ao.Sub aj s) {b:Nat} (h:s b=none):aj b=none:=by rcases ar b with e|e<;>simp_all
theorem Kept.ym {aj eO:ao} (ar:ao.Sub aj s) {w w':World} {p bj:bV} (h:Kept aj eO w p w' bj):Kept s eO w p w' bj :=
 ⟨fun b an az=>h.heap b an (ar.none az),fun b an az=>h.k2 b an (ar.none az),fun b o an az=>h.ly b o an (ar.none az)⟩
theorem dI.FV {B:fV} {ro:Option Nat} {aj:ao} {a:Act} {w:World} {p:bV} (ar:ao.Sub aj s) (h:dI N B ro env s a w p):dI N B ro env aj a w p:=by
 obtain ⟨ds,U,ad,al⟩:=h.defs;exact ⟨h.size,h.env,h.wf.sub ar,⟨ds,U,ad,fun d ax=>let ⟨a,b,c⟩:=al d ax;⟨a,b,ar.none c⟩⟩,fun l aC=>let ⟨a,b,c⟩:=h.round l aC;⟨a,b,ar.none c⟩,h.base⟩
theorem ae.drop {c:Code} (aj:ao) (ar:ao.Sub aj s) (h:ae P N c Q env aj):ae P N c Q env s:=
 fun b B a w p e4 aI=>mq (h b B a w p e4 (aI.FV ar)) fun _ _ _ ⟨x,e0,eO,bj,U,ad,al,bf,bE⟩=>⟨x,e0,eO,bj,U,ad,al,bf,bE.ym ar⟩
theorem ae.loop {σ:Type} {c:Code} (E:σ→Env) (S:σ→ao) (aej:σ→Prop) (μ:σ→Nat) (ov:σ) (aq:aej ov) (eS:Env.Sub (E ov) env) (ck:ao.Sub (S ov) s)
  (round:∀ x,aej x→ae P N c (b9.andThen (fun e0 aj=>∃ y,aej y∧Env.Sub (E y) e0∧ao.Sub (S y) aj∧μ y<μ x) Q) (E x) (S x)):ae P N (.loop c) Q env s:=by
 refine ae.sub _ eS (ae.drop _ ck ?_);intro b B a w p e4 aI;have key:∀ n x a w p,μ x=n→aej x→dI N B b.roundOf (E x) (S x) a w p→∀ k cs,∃ e c7 w',kz N B b.roundOf (S x) w p Q e c7 w' ∧
   qY P (lone (b.atR a (.code c :: .inLoop c::k)) cs w) b k cs e c7 w':=by
  intro n
  induction n using av1 with
  | _ n a1=>
   intro x a w p az ab aI k cs;obtain ⟨e,iQ,w₁,⟨CM,po,s₁,p₁,FW,br,lA,hle,aE⟩,gg⟩:=round x ab b B a w p e4 aI (.inLoop c::k) cs;by_cases he:e = .normal
   ·subst he
    cases FW;obtain ⟨y,ay,hU,Kr,au⟩:=br;obtain ⟨z1,CK,hT,uA,uB⟩:=a1 (μ y) (az ▸ au) y iQ w₁ p₁ rfl ay ((lA.sub hU).FV Kr) k cs;refine ⟨z1,CK,hT,kz.after hle aE ?_,.of_steps (Steps.trans gg (.one stepR_inLoop)) uB⟩;obtain ⟨nI,e0,eO,bj,U,ad,al,bf,bE⟩:=uA;exact ⟨nI,e0,eO,bj,U,ad,al,bf,bE.ym Kr⟩
   ·have vV:kz N B b.roundOf (S x) w p Q e iQ w₁:=by
     refine ⟨CM,po,s₁,p₁,FW,?_,lA,hle,aE⟩;cases FW<;>first|exact absurd C he|exact br
    exact ⟨e,iQ,w₁,vV,qY.Ko (c:=c) (.inLoop c) C he gg⟩
 intro k cs;obtain ⟨e,c7,w',br,gg⟩:=key _ ov a w p rfl aq aI k cs;exact ⟨e,c7,w',br,.of_steps (.one stepR_loop) gg⟩
end RU
def aZ (P:Program) (N:Nat) (o:Oper) (env:Env) (s:ao) (K X:ag→ao→Prop):Prop:=
 gJ o=true∧∀ ro B a w p,dI N B ro env s a w p→p7 P ((execOp a.eval o).run P w) fun e w'=>∃ aj bj,dg w p w' bj∧Kept s aj w p w' bj∧dx w' bj aj ∧
  match e with
  | .returned v=>∃ x,K x aj∧Rel w' bj v x
  | .panicked dJ=>∃ v x,yk v dJ∧X x aj∧Rel w' bj v x
  | .outgrown=>False
theorem aZ.mono {P:Program} {N:Nat} {o:Oper} {env:Env} {s:ao} {K X aO nJ:ag→ao→Prop} (h:aZ P N o env s K X)
  (aE:∀ x s,K x s→aO x s) (ab:∀ x s,X x s→nJ x s):aZ P N o env s aO nJ :=
 ⟨h.1,fun ro B a w p aI=>(h.2 ro B a w p aI).mono fun e w' ⟨aj,bj,U,ad,al,bf⟩=>⟨aj,bj,U,ad,al,by
  cases e with
  | returned v=>obtain ⟨x,ab,aD⟩:=bf;exact ⟨x,aE _ _ ab,aD⟩
  | panicked dJ=>obtain ⟨v,x,aB,hg,aD⟩:=bf;exact ⟨v,x,aB,ab _ _ hg,aD⟩
  | outgrown=>exact bf⟩⟩
def guardOf (ops:Array Oper) (env:Env) (o:Oper):Option Bool:=
  match o.guard with
  | none=>some true
  | some (j,want)=>
    match (ops[j]?).bind (·.dst) with
    | none=>some false
    | some d=>match env.get? d with
      | some (.bool b)=>some (match want with|true=>b|false => !b)
      | some (.cw [])=>some false
      | _=>none
theorem RW {w:World} {p:bV} {v:Value} (h:Rel w p v (.cw [])):v = .tuple #[]:=by
 cases h with
 | cw vs _ h=>have:=h.length;simp at this;rw [this]
theorem vZ {N:Nat} {B:fV} {ro:Option Nat} {env:Env} {s:ao} {a:Act} {w:World} {p:bV} (aI:dI N B ro env s a w p) {ops:Array Oper} {o:Oper} {g:Bool}
  (h:guardOf ops env o=some g):Region.wanted o (yielded ops a.tmps)=g:=by
 unfold guardOf at h;unfold Region.wanted;split at h
 ·rename_i av;simp only [av];cases h;rfl
 ·rename_i j want av
  simp only [av];split at h
  ·rename_i ax
   cases h;simp [yielded,ax]
  ·rename_i d ax
   split at h
   ·rename_i b an
    have aD:=aI.env d _ an;have aw:=CN aD;cases h;have ay:yielded ops a.tmps j=some b:=by
     unfold yielded;have:a.tmps[d]? = some (.bool b):=by
      rw [ag1] at aw;cases ab:a.tmps[d]? with
      | none=>rw [ab] at aw;simp [undef] at aw
      | some v=>rw [ab] at aw;simpa using aw
     simp [ax,this]
    rw [ay];cases want<;>cases b<;>rfl
   ·rename_i an
    cases h;have aD:=aI.env d _ an;have aw:a.tmps.getD d undef = .tuple #[]:=by
     generalize Ks:a.tmps.getD d undef=v at aD;exact RW aD
    have ay:yielded ops a.tmps j=none:=by
     unfold yielded;rw [ag1] at aw;simp only [ax,aj5];cases ab:a.tmps[d]? with
     | none=>rfl
     | some v=>rw [ab] at aw;simp at aw;subst aw;rfl
    rw [ay];rfl
   ·cases h
def fN (P:Program) (N:Nat) (ops:Array Oper) (l:List Nat) (Q:b9→Env→ao→Prop) (env:Env) (s:ao):Prop:=
 ∀ ro B a w p,dI N B ro env s a w p→jh P ops (kz N B ro s w p Q) l a w
section rw
variable {P:Program} {N:Nat} {ops:Array Oper} {Q:b9→Env→ao→Prop} {env:Env} {s:ao}
theorem ae.region {id:Nat} (h:fN P N ops (ag3 ops.size) Q env s):ae P N (.region id ops false) Q env s:=
 fun b B a w p _ aI=>RN (h b.roundOf B a w p aI)
theorem fN.nil (h:Q .normal env s):fN P N ops [] Q env s:=fun _ _ _ _ _ aI => .here .normal h aI
theorem v7 {Q pn:hd→Act→World→Prop} (br:∀ e a w,Q e a w→pn e a w):∀ (l:List Nat) (a:Act) (w:World),jh P ops Q l a w→jh P ops pn l a w:=by
 intro l
 induction l with
 | nil=>exact fun a w h=>br _ _ _ h
 | cons i rest a1=>
  intro a w h;simp only [jh] at h ⊢;split at h
  ·rename_i ai;exact a1 _ _ h
  ·rename_i o ai
   split at h
   ·rename_i hw
    rw [g6 hw];exact ⟨h.1,h.2.mono fun e w' he=>by cases e<;>first|exact a1 _ _ he|exact br _ _ _ he|exact he⟩
   ·rename_i hw
    rw [f0 hw];exact a1 _ _ h
theorem fN.after {l:List Nat} {s₁:ao} {ro:Option Nat} {B:fV} {a:Act} {w w₁:World} {p p₁:bV} {FX:Env}
  (hle:dg w p w₁ p₁) (aE:Kept s s₁ w p w₁ p₁) (h:fN P N ops l Q FX s₁) (aI:dI N B ro FX s₁ a w₁ p₁):jh P ops (kz N B ro s w p Q) l a w₁:=
 v7 (fun _ _ _ q=>q.after hle aE) l a w₁ (h ro B a w₁ p₁ aI)
theorem fN.op {i:Nat} {l:List Nat} {o:Oper} {d:Nat} {K X:ag→ao→Prop} (ai:ops[i]? = some o) (av:guardOf ops env o=some true) (ax:o.dst=some d)
  (aU:t8 d N=true) (h:aZ P N o env s K X) (aE:∀ x aj,K x aj→fN P N ops l Q ((d,x)::env) aj) (ab:∀ x aj,X x aj→Q (.panic x) env aj) :
  fN P N ops (i::l) Q env s:=by
 intro ro B a w p aI;have nK:d<N:=by simpa [an3] using aU
 simp only [jh,ai,vZ aI av,ag7];refine ⟨h.1,(h.2 ro B a w p aI).mono ?_⟩;rintro e w' ⟨aj,bj,hle,lX,cf,he⟩;cases e with
 | returned v=>
  obtain ⟨x,bk,aD⟩:=he;rw [ax];exact fN.after hle lX (aE x aj bk) ((aI.step hle lX cf).put nK aD)
 | panicked dJ=>
  obtain ⟨v,x,ki,hg,aD⟩:=he;exact ⟨.panic x,env,aj,bj,.panic v x dJ ki aD,ab x aj hg,aI.step hle lX cf,hle,lX⟩
 | outgrown=>exact he
theorem fN.v8 {i:Nat} {l:List Nat} {o:Oper} {K X:ag→ao→Prop} (ai:ops[i]? = some o) (av:guardOf ops env o=some true) (ax:o.dst=none)
  (h:aZ P N o env s K X) (aE:∀ x aj,K x aj→fN P N ops l Q env aj) (ab:∀ x aj,X x aj→Q (.panic x) env aj) :
  fN P N ops (i::l) Q env s:=by
 intro ro B a w p aI;simp only [jh,ai,vZ aI av,ag7];refine ⟨h.1,(h.2 ro B a w p aI).mono ?_⟩;rintro e w' ⟨aj,bj,hle,lX,cf,he⟩;cases e with
 | returned v=>
  obtain ⟨x,bk,aD⟩:=he;rw [ax];exact fN.after hle lX (aE x aj bk) (aI.step hle lX cf)
 | panicked dJ=>
  obtain ⟨v,x,ki,hg,aD⟩:=he;exact ⟨.panic x,env,aj,bj,.panic v x dJ ki aD,ab x aj hg,aI.step hle lX cf,hle,lX⟩
 | outgrown=>exact he
theorem FY {w:World} {p:bV}:Rel w p undef (.cw []) := .cw #[] [] .nil
theorem fN.skip {i:Nat} {l:List Nat} {o:Oper} {d:Nat} (ai:ops[i]? = some o) (av:guardOf ops env o=some false) (ax:o.dst=some d) (aU:t8 d N=true)
  (h:fN P N ops l Q ((d,.cw [])::env) s):fN P N ops (i::l) Q env s:=by
 intro ro B a w p aI;have nK:d<N:=by simpa [an3] using aU
 simp only [jh,ai,vZ aI av,ah',af8,ax];exact h ro B _ w p (aI.put nK FY)
end rw
theorem dx.grow {w w':World} {p bj:bV} {s:ao} (hle:dg w p w' bj) (cY:∀ b,b<w.heap.size→w'.heap[b]? = w.heap[b]?)
  (aF:∀ b o,b<w.heap.size→bj b o→p b o) (au:∀ b o,bj b o→b<w'.heap.size) (h:dx w p s):dx w' bj s:=by
 refine ⟨fun b o an=>?_,au⟩;have ai:=h.obj b o an;cases o with
 | box t cs=>
  obtain ⟨vs,U,ad,al⟩:=ai;have te:b<w.heap.size:=(i9.1 U).1;exact ⟨vs,(cY b te).trans U,ad.mono hle,fun o fg=>al o (aF b o te fg)⟩
 | row t sz n=>
  obtain ⟨cur,U,ad,al,bf⟩:=ai;have te:b<w.heap.size:=(i9.1 U).1;exact ⟨cur,(cY b te).trans U,ad,al,fun o=>⟨fun fg=>(bf o).1 (aF b o te fg),fun az=>hle.ly _ _ ((bf o).2 az)⟩⟩
 | map es=>
  obtain ⟨cQ,clock,U,ad,al,bf⟩:=ai;have te:b<w.heap.size:=(i9.1 U).1;exact ⟨cQ,clock,(cY b te).trans U,⟨ad.1.mono hle,ad.2.mono hle⟩,al,bf⟩
 | lz es it left cur=>
  obtain ⟨cQ,clock,seen,U,ad,-⟩:=id ai;exact ai.q1 hle (cY b (i9.1 U).1) (cY it (i9.1 ad).1)
 | tick m=>obtain ⟨dE,a2,a3,U⟩:=ai;exact ⟨dE,a2,a3,(cY b (i9.1 U).1).trans U⟩
 | loop r env=>exact ⟨(cY b (i9.1 ai.1).1).trans ai.1,fun t v h=>(ai.2 t v h).mono hle⟩
theorem mw (w:World) (o:Obj) (b:Nat) (h:b<w.heap.size):(w.alloc o).heap[b]? = w.heap[b]?:=by
 show (w.heap.push o)[b]? = _;rw [aA3,f0 af]
theorem uE (w:World) (o:Obj):(w.alloc o).heap[w.heap.size]? = some o:=by
 show (w.heap.push o)[w.heap.size]? = _;rw [aA3,g6 C]
theorem yn {w w':World} {b:Nat} (h:w'.heap[b]? = w.heap[b]?):w'.k1 b=w.k1 b:=by simp [World.k1,h]
theorem yo {w w':World} {b o:Nat} (h:w'.heap[b]? = w.heap[b]?):w'.cell? ⟨b,o,none⟩=w.cell? ⟨b,o,none⟩:=by simp [World.cell?,h]
theorem RX {w:World} {b:Nat} {x:TypeId×Nat} (h:w.k1 b=some x):b<w.heap.size:=by
 unfold World.k1 at h;split at h
 ·rename_i cY;exact (i9.1 cY).1
 ·cases h
theorem dg.of_heap {w w':World} {p bj:bV} (ai:w'.os=w.os) (aN:w'.tape=w.tape) (hu:w'.output=w.output) (ar:w.heap.size≤w'.heap.size)
  (aF:∀ b o,p b o→bj b o) (au:∀ b o,p b o→b<w.heap.size) (cY:∀ b,b<w.heap.size→w'.heap[b]? = w.heap[b]?):dg w p w' bj :=
 ⟨ai,aN,hu,ar,aF,fun b o an=>yo (cY b (au b o an)),fun b x ab=>by rw [yn (cY b (RX ab))];exact ab⟩
def bV.ei (p:bV) (b:Nat) (c:Prop):bV:=fun aY o=>p aY o∨(aY=b∧c)
section alloc
variable {w:World} {p:bV} {s:ao}
theorem uF (au:∀ b o,p b o→b<w.heap.size) (o:Obj) (c:Prop):dg w p (w.alloc o) (p.ei w.heap.size c):=
 dg.of_heap C C C ba (fun _ _ h => .inl h) au (fun b an=>mw w o b an)
theorem z' (h:dx w p s) (o:Obj) (c:Prop):dx (w.alloc o) (p.ei w.heap.size c) s:=
  h.grow (uF h.lt o c) (fun b an=>mw w o b an) (fun b o an aF=>by rcases aF with aF|⟨rfl,_⟩;exact aF;omega)
    (fun b o aF=>by rcases aF with aF|⟨rfl,_⟩;have:=h.lt b o aF;simp;omega;simp)
theorem CO (o:Obj) (c:Prop):Kept s s w p (w.alloc o) (p.ei w.heap.size c):=
 ⟨fun b an _=>mw w o b an,fun _ _ h=>h,fun b o an _ aF=>by rcases aF with aF|⟨rfl,_⟩;exact aF;omega⟩
theorem FZ (vs:List Value) (t:TypeId):vX (w.alloc (.cells vs.toArray t)) (p.ei w.heap.size True) w.heap.size 0 vs:=by
 intro i v aw;refine ⟨.inr ⟨rfl,trivial⟩,?_⟩;rw [af5];simp only [World.cell?,uE,at7,af8,ah'];simpa using aw
theorem k3:dg w p w.drew p:=⟨rfl,rfl,rfl,g8 _,fun _ _ h=>h,fun _ _ _=>rfl,fun _ _ h=>h⟩
theorem yp (h:dx w p s):dx w.drew p s:=h.grow k3 (fun _ _=>rfl) (fun _ _ _ h=>h) h.lt
theorem v':Kept s s w p w.drew p:=⟨fun _ _ _=>rfl,fun _ _ h=>h,fun _ _ _ _ h=>h⟩
end alloc
inductive tf where
 | bool
 | int (k:IntKind)
 | str
 | ptr (e:TypeId)
 | aA (e:TypeId)
 | map (k e:TypeId)
 | struct (gK:List (Nat×TypeId))
 | iface (bare:Bool)
 | func
 | arr (n:Nat) (e:TypeId)
 | other
structure bO where
 bF:tf
 size:Nat
 bytes:Nat
 zero:Value
def eB:TypeDesc→tf
 | .bool => .bool
 | .int k => .int k
 | .string => .str
 | .pointer e => .ptr e
 | .slice e => .aA e
 | .map k e => .map k e
 | .struct gK => .struct (gK.toList.map fun f=>(f.offset,f.type))
 | .interface ms => .iface ms.isEmpty
 | .func .. => .func
 | .array n e => .arr n e
 | _ => .other
abbrev cA:=List (Nat×bO)
def cA.get? : cA→Nat→Option bO
 | [],_=>none
 | (t,v)::e,n=>if af0 t n then some v else cA.get? e n
def F0 (P:Program) (t:TypeId):Option bO:=
  match P.info? t,P.underlying t with
  | some i,some d=>match i.zero with
    | some z=>some { bF:=eB d,size:=i.size,bytes:=i.bytes,zero:=z }
    | none=>none
  | _,_=>none
def bQ (P:Program) (Γ:cA):Prop:=∀ t i,Γ.get? t=some i→F0 P t=some i
theorem RY (P:Program) (Γ:cA) (h:Γ.map (fun x=>F0 P x.1)=Γ.map (fun x=>some x.2)):bQ P Γ:=by
 induction Γ with
 | nil=>intro t i h;simp [cA.get?] at h
 | cons x Γ a1=>
  obtain ⟨bI,CP⟩:=x;simp only [ae3,List.cons.injEq] at h;intro t i av;simp only [cA.get?] at av;split at av
  ·rename_i he
   have:=ae0 he;subst this;cases av;exact h.1
  ·exact a1 h.2 t i av
theorem bQ.parts {P:Program} {Γ:cA} (h:bQ P Γ) {t:TypeId} {i:bO} (aR:Γ.get? t=some i) :
  ∃ info d,P.info? t=some info∧P.underlying t=some d∧eB d=i.bF∧info.size=i.size∧info.bytes=i.bytes∧info.zero=some i.zero:=by
 have:=h t i aR;unfold F0 at this;split at this
 ·rename_i info d U ad
  split at this
  ·rename_i z bG
   cases this;exact ⟨info,d,U,ad,rfl,rfl,rfl,bG⟩
  ·cases this
 ·cases this
def cellsOf:ag→Option (List ag)
 | .agg cs=>some cs
 | .any=>none
 | .hG (.func f a c)=>some [.hG (.func f a c)]
 | .hG (.slice a n c)=>some [.hG (.slice a n c)]
 | .hG _=>none
 | .cw _=>none
 | v=>some [v]
theorem q2 {w:World} {p:bV} {v:Value} {x:ag} {cs:List ag} (aD:Rel w p v x) (h:cellsOf x=some cs):bH w p v.cells.toList cs:=by
 cases aD with
 | hG v=>
  cases v<;>simp [cellsOf] at h
  all_goals
   subst h;exact .cons _ _ _ _ (.hG _) .nil
 | any=>cases h
 | cw=>cases h
 | agg cs xs e3=>cases h;exact e3
 | _=>simp only [cellsOf] at h;cases h;simp only [Value.cells];refine .cons _ _ _ _ ?_ .nil;constructor<;>assumption
def uG:Nat→List ag→Option (List ag)
  | 0,_=>some []
  | n+1,v::r=>match uG n r with
    | some s=>some (v::s)
    | none=>none
  | _+1,[]=>none
def q3:Nat→List ag→Option (List ag)
 | 0,r=>some r
 | n+1,_::r=>q3 n r
 | _+1,[]=>none
def nth {α:Type}:List α→Nat→Option α
 | [],_=>none
 | x::_,0=>some x
 | _::r,n+1=>nth r n
theorem yq {α:Type} (l:List α) (n:Nat):nth l n=l[n]?:=by
  induction l generalizing n with
  | nil=>rfl
  | cons x l a1=>cases n with
    | zero=>rfl
    | succ n=>simp only [nth,ap6];exact a1 n
theorem CQ {n:Nat} {l r:List ag} (h:uG n l=some r):r=l.take n∧n≤l.length:=by
 induction n generalizing l r with
 | zero=>cases h;simp
 | succ n a1=>
  cases l with
  | nil=>simp [uG] at h
  | cons v l=>
   simp only [uG] at h;split at h
   ·rename_i s ar;cases h;obtain ⟨U,ad⟩:=a1 ar;subst U;simp;omega
   ·cases h
theorem RZ {n:Nat} {l r:List ag} (h:q3 n l=some r):r=l.drop n:=by
  induction n generalizing l with
  | zero=>cases h;rfl
  | succ n a1=>cases l with
    | nil=>simp [q3] at h
    | cons v l=>simpa [q3] using a1 (by simpa [q3] using h)
def hV (i:bO) (cells:List ag) (off:Nat):Option ag:=
  match q3 off cells with
  | none=>none
  | some r=>match i.bF with
    | .struct _=>match uG i.size r with
      | some cs=>some (.agg cs)
      | none=>none
    | .arr _ _=>match uG i.size r with
      | some cs=>some (.agg cs)
      | none=>none
    | .other=>none
    | _=>match r with
      | v::_=>some v
      | []=>none
def hH:Value→Option ag
  | .agg cs=>match cs.toList.mapM yj with
    | some xs=>some (.agg xs)
    | none=>none
  | v=>yj v
theorem R0 {w:World} {p:bV} {vs:List Value} {xs:List ag} (h:vs.mapM yj=some xs):bH w p vs xs:=by
 induction vs generalizing xs with
 | nil=>simp at h;subst h;exact .nil
 | cons v vs a1=>
  simp only [ay',Option.bind_eq_bind,Option.pure_def,Option.bind_eq_some_iff,ao1.injEq] at h;obtain ⟨x,ab,ys,yr,rfl⟩:=h;exact .cons _ _ _ _ (FU ab) (a1 yr)
theorem q4 {w:World} {p:bV} {v:Value} {x:ag} (h:hH v=some x):Rel w p v x:=by
 unfold hH at h;split at h
 ·split at h
  ·rename_i cs xs ab;cases h;exact .agg _ _ (R0 ab)
  ·cases h
 ·exact FU h
def wa (d:TypeDesc):Bool:=match d with | .struct _ | .array _ _=>true|_=>false
theorem yu {P:Program} {t:TypeId} {d:TypeDesc} (h:P.underlying t=some d) (w:World):(isAgg t).run P w = .ok (wa d) w:=by
 unfold isAgg;rw [ac',run_underlying h,i5];cases d<;>rfl
theorem Aa {d:TypeDesc} {gK:List (Nat×TypeId)} (h:eB d = .struct gK):∃ f:Array Field,d = .struct f∧gK=f.toList.map fun x=>(x.offset,x.type):=by
 cases d<;>simp [eB] at h;rename_i f;exact ⟨f,rfl,h.symm⟩
theorem Ab {d:TypeDesc} {n:Nat} {e:TypeId} (h:eB d = .arr n e):d = .array n e:=by
 cases d<;>simp [eB] at h
 rw [h.1,h.2]
theorem Kt {d:TypeDesc} (U:∀ gK,eB d ≠ .struct gK) (al:∀ n e,eB d ≠ .arr n e) (ad:eB d ≠ .other):wa d=false:=by
 cases d<;>simp_all [eB,wa]
def F1 (op:BinOp) (k:IntKind) (a b:Int):Option ag:=
 match op with
 | .add=>some (.int k (k.wrap (a+b)))
 | .sub=>some (.int k (k.wrap (a-b)))
 | .mul=>some (.int k (k.wrap (a*b)))
 | .eql=>some (.bool (a==b))
 | .neq=>some (.bool (a != b))
 | .lss=>some (.bool (decide (a<b)))
 | .leq=>some (.bool (decide (a≤b)))
 | .gtr=>some (.bool (decide (a>b)))
 | .geq=>some (.bool (decide (a≥b)))
 | _=>none
def F2 (op:BinOp) (a b:List UInt8):Option ag:=
 match op with
 | .eql=>some (.bool (a==b))
 | .neq=>some (.bool (!(a==b)))
 | .lss=>some (.bool (Op.bytesLess a b))
 | .gtr=>some (.bool (!(Op.bytesLess a b||a==b)))
 | .leq=>some (.bool (Op.bytesLess a b||a==b))
 | .geq=>some (.bool (!(Op.bytesLess a b)))
 | _=>none
def wb:ag→Option Bool
 | .mu | .td | .uD | .ou=>some true
 | .ptr _ _ | .bw _ _ | .mv _ _ | .map _ | .func _ _ _ | .iface _ _=>some false
 | .aA _ _ .nil=>some true
 | .aA _ (_::_) _=>some false
 | .aA _ _ (.own _)=>some false
 | _=>none
inductive F3 where|ptr|aA|map|func|iface
def Ku:Operand→Option F3
 | .const (.pointer none)=>some .ptr
 | .const (.slice none 0 0)=>some .aA
 | .const (.map none)=>some .map
 | .const .nilFunc=>some .func
 | .const .nilIface=>some .iface
 | _=>none
def tf.CR:tf→F3→Bool
 | .ptr _,.ptr=>true
 | .aA _,.aA=>true
 | .map _ _,.map=>true
 | .func,.func=>true
 | .iface _,.iface=>true
 | _,_=>false
def ag.CS:ag→F3→Bool
 | .mu,.ptr | .ptr _ _,.ptr | .bw _ _,.ptr | .mv _ _,.ptr=>true
 | .aA _ _ _,.aA=>true
 | .td,.map | .map _,.map=>true
 | .uD,.func | .func _ _ _,.func=>true
 | .ou,.iface | .iface _ _,.iface=>true
 | _,_=>false
def CT (Γ:cA) (op:BinOp) (t:TypeId) (y:Operand) (a b:ag):Option ag:=
  match Ku y with
  | some k=>match Γ.get? t with
    | some i=>match i.bF.CR k,a.CS k,wb a,op with
      | true,true,some q,.eql=>some (.bool q)
      | true,true,some q,.neq=>some (.bool (!q))
      | _,_,_,_=>none
    | none=>none
  | none=>match a,b with
    | .int k x,.int k' z=>if k=k' then F1 op k x z else none
    | .str x,.str z=>F2 op x z
    | .bool x,.bool z=>match Γ.get? t,op with
      | some ⟨.bool,_,_,_⟩,.eql=>some (.bool (x==z))
      | some ⟨.bool,_,_,_⟩,.neq=>some (.bool (!(x==z)))
      | _,_=>none
    | .mv x _,.mv z _=>match Γ.get? t,op with
      | some ⟨.ptr e,_,_,_⟩,.eql=>match Γ.get? e with
        | some ⟨_,_+1,_,_⟩=>some (.bool (x==z))
        | _=>none
      | some ⟨.ptr e,_,_,_⟩,.neq=>match Γ.get? e with
        | some ⟨_,_+1,_,_⟩=>some (.bool (!(x==z)))
        | _=>none
      | _,_=>none
    | _,_=>none
theorem R1 {P:Program} {op:BinOp} {t:TypeId} {k:IntKind} {a b:Int} {x:ag} (h:F1 op k a b=some x) (w:World) (p:bV) :
  ∃ v,(binOp op t (.int k a) (.int k b)).run P w = .ok v w∧Rel w p v x:=by
 cases op<;>simp only [F1] at h<;>cases h<;>simp only [binOp,ne_eq,not_true_eq_false,ah',Op.intArith,Op.intCmp,ae6] <;>
  first|exact ⟨_,rfl,.int _ _⟩|exact ⟨_,rfl,.bool _⟩
theorem R2 {P:Program} {op:BinOp} {t:TypeId} {a b:ByteArray} {x:ag} (h:F2 op a.data.toList b.data.toList=some x) (w:World) (p:bV) :
  ∃ v,(binOp op t (.string a) (.string b)).run P w = .ok v w∧Rel w p v x:=by
 cases op<;>simp only [F2] at h<;>cases h<;>simp only [binOp,Op.stringOp,ae6,ByteArray.toList_eq]<;>exact ⟨_,rfl,.bool _⟩
theorem Kv {w:World} {b:Nat} {x:TypeId×Nat} (h:w.k1 b=some x):∃ c T,w.heap[b]? = some (.cells c T (0,0)):=by
 unfold World.k1 at h;split at h
 ·rename_i c T cY;exact ⟨c,T,cY⟩
 ·cases h
theorem tg {P:Program} {op:BinOp} {t:TypeId} {x y:Operand} {a b:Value} (w:World) (h:(a = .nilIface∧b = .nilIface→∃ c,y = .const c)∧(∀ c,a ≠ .agg c)) :
  (eqGuard op t x y a b).run P w = .ok () w:=by
 cases a with
 | nilIface=>
  cases b with
  | nilIface=>
   obtain ⟨c,rfl⟩:=h.1 ⟨rfl,rfl⟩;cases x<;>cases op<;>rfl
  | _=>cases op<;>rfl
 | agg c=>exact absurd C (h.2 c)
 | _=>cases op<;>rfl
theorem wc {P:Program} {t:TypeId} {x y:Value} {q:Bool} {w:World} (an:binOp .eql t x y=(do pure (.bool (← Op.equal t x y)))) (az:binOp .neq t x y=(do pure (.bool (!(← Op.equal t x y)))))
  (h:∀ d,(Op.equalIn (d+1) t x y).run P w = .ok q w):(binOp .eql t x y).run P w = .ok (.bool q) w∧(binOp .neq t x y).run P w = .ok (.bool (!q)) w:=by
 have he:(Op.equal t x y).run P w = .ok q w:=h 9999;rw [an,az];simp only [ac',he,i5,ae6,and_self]
theorem R3 {w:World} {p:bV} {v:Value} {sz:Nat} {xs:List ag} {own:bN} {q:Bool} (h:Rel w p v (.aA sz xs own)) (br:wb (.aA sz xs own)=some q) :
  (v = .slice none 0 0∧q=true)∨(∃ a n c,v = .slice (some a) n c∧q=false):=by
 cases h with
 | h4 _ _ ai=>
  cases own<;>simp [wb] at br
  ·exact .inl ⟨rfl,by simp [br]⟩
  ·exact absurd C (ai _)
 | iE a _ _ ai=>rcases ai with rfl|rfl<;>simp [wb] at br
 | aA g off n cap _ vs _ _ az aC aB aD ar hm aE cy ai=>
  refine .inr ⟨_,_,_,rfl,?_⟩;cases own<;>cases xs<;>simp [wb] at br az<;>simp [br]
theorem R4 {P:Program} {Γ:cA} (aP:bQ P Γ) {N:Nat} {B:fV} {ro:Option Nat} {env:Env} {s:ao} {a:Act} {w:World} {p:bV} (aI:dI N B ro env s a w p)
  {op:BinOp} {t yt:TypeId} {x y:Operand} {u v r:ag} (ab:aM env x=some u) (ay:aM env y=some v) (h:CT Γ op t y u v=some r) :
  ∃ val,(do eqGuard op t x y (a.eval x) (a.eval y);binOp op t (a.eval x) (a.eval y):Sem Value).run P w = .ok val w∧Rel w p val r:=by
 have hu:=aI.aM ab;have aw:=aI.aM ay;unfold CT at h;split at h
 ·rename_i k aE
  have R5:∃ c,y = .const c∧a.eval y=c∧((k = .ptr∧c = .pointer none)∨(k = .aA∧c = .slice none 0 0)∨(k = .map∧c = .map none)∨(k = .func∧c = .nilFunc)∨(k = .iface∧c = .nilIface)):=by
   unfold Ku at aE;split at aE<;>cases aE<;>exact ⟨_,rfl,rfl,by simp⟩
  obtain ⟨c,rfl,aB,CU⟩:=R5;rw [aB];split at h
  ·rename_i i aR
   obtain ⟨info,d,U,ad,al,-⟩:=aP.parts aR;have key:∀ q,wb u=some q→u.CS k=true→i.bF.CR k=true→(∀ cs,a.eval x ≠ .agg cs)∧(binOp .eql t (a.eval x) c).run P w = .ok (.bool q) w∧(binOp .neq t (a.eval x) c).run P w = .ok (.bool (!q)) w:=by
    intro q br a7 ai;generalize a.eval x=dR at hu;rw [← al] at ai;have ar:∀ (g n cap:Nat) (o:Nat),True:=fun _ _ _ _=>trivial
    have cR:∀ e sz xs own,d = .slice e→u = .aA sz xs own→(∀ cs,dR ≠ .agg cs)∧(binOp .eql t dR (.slice none 0 0)).run P w = .ok (.bool q) w∧(binOp .neq t dR (.slice none 0 0)).run P w = .ok (.bool (!q)) w:=by
     rintro e sz xs own rfl rfl;rcases R3 hu br with ⟨rfl,rfl⟩|⟨a,n,c,rfl,rfl⟩<;>(refine ⟨by simp,wc C C (fun d=>?_)⟩<;>simp [Op.equalIn,run_underlying ad])
    rcases CU with ⟨rfl,rfl⟩|⟨rfl,rfl⟩|⟨rfl,rfl⟩|⟨rfl,rfl⟩|⟨rfl,rfl⟩ <;>
    (try (cases d<;>simp only [eB,tf.CR] at ai<;>(try (simp at ai;done))<;>cases u<;>simp only [ag.CS] at a7<;>(try (simp at a7;done))<;>exact cR _ _ _ _ C C)) <;>
    cases d<;>simp only [eB,tf.CR] at ai<;>(try (simp at ai;done)) <;>
    cases hu<;>simp only [ag.CS,wb] at a7 br<;>(try (simp at a7;done)) <;>
    (try (cases br)) <;>
    (refine ⟨by simp,wc C C (fun d=>?_)⟩<;>simp [Op.equalIn,run_underlying ad]<;>done)
   split at h
   ·rename_i q ai a7 br
    cases h;obtain ⟨cE,dq,fl⟩:=key q br a7 ai;exact ⟨_,by rw [ac',tg w ⟨fun _=>⟨_,rfl⟩,cE⟩,i5,dq],.bool _⟩
   ·rename_i q ai a7 br
    cases h;obtain ⟨cE,dq,fl⟩:=key q br a7 ai;exact ⟨_,by rw [ac',tg w ⟨fun _=>⟨_,rfl⟩,cE⟩,i5,fl],.bool _⟩
   ·cases h
  ·cases h
 ·split at h
  ·rename_i k z k' F4
   split at h
   ·rename_i lX
    subst lX;generalize a.eval x=dR at hu;generalize a.eval y=fW at aw;cases hu;cases aw;obtain ⟨val,U,ad⟩:=R1 (P:=P) (t:=t) h w p;exact ⟨val,by rw [ac',tg w ⟨by simp,by simp⟩,i5,U],ad⟩
   ·cases h
  ·generalize a.eval x=dR at hu;generalize a.eval y=fW at aw
   cases hu with|str ho _ b2=>cases aw with|str cT _ bU=>
   subst b2;subst bU;obtain ⟨val,U,ad⟩:=R2 (P:=P) (t:=t) h w p;exact ⟨val,by rw [ac',tg w ⟨by simp,by simp⟩,i5,U],ad⟩
  ·generalize a.eval x=dR at hu;generalize a.eval y=fW at aw
   cases hu;cases aw;split at h
   ·rename_i aR
    obtain ⟨info,d,U,ad,al,-⟩:=aP.parts aR;have ax:d = .bool:=by cases d<;>simp [eB] at al;rfl
    subst ax;cases h;exact ⟨_,by rw [ac',tg w ⟨by simp,by simp⟩,i5];exact run_eql_bool w t _ _ ad,.bool _⟩
   ·rename_i aR
    obtain ⟨info,d,U,ad,al,-⟩:=aP.parts aR;have ax:d = .bool:=by cases d<;>simp [eB] at al;rfl
    subst ax;cases h;exact ⟨_,by rw [ac',tg w ⟨by simp,by simp⟩,i5];exact run_neq_bool w t _ _ ad,.bool _⟩
   ·cases h
  ·rename_i ho acW cT ew
   generalize a.eval x=dR at hu;generalize a.eval y=fW at aw;cases hu;cases aw;rename_i v1 yv s1 cu e8 v2 we s2 cL fB;have key:∀ e d i,P.underlying t=some (.pointer e)→Γ.get? e=some i→i.size≠0→(Op.equalIn (d+1) t (.pointer (some ⟨ho,0,none⟩)) (.pointer (some ⟨cT,0,none⟩))).run P w = .ok (ho==cT) w:=by
    intro e d i he aR bq;obtain ⟨mZ,c9,ow,ox,wg,p8,-⟩:=aP.parts aR;have cc:mZ.size≠0:=by rw [p8];exact bq
    have ar:(sameAddr ⟨ho,0,none⟩ ⟨cT,0,none⟩).run P w = .ok (ho==cT) w:=by
     by_cases an:ho=cT
     ·subst an;rw [beq_self_eq_true];exact run_sameAddr_same w _
     ·rw [beq_eq_false_iff_ne.2 an]
      obtain ⟨p9,aez,cE⟩:=Kv s1.choose_spec;obtain ⟨r8,ad1,dq⟩:=Kv s2.choose_spec;exact run_sameAddr_other w (fun e=>an (ae7 Addr.block e)) cE dq
    simp only [Op.equalIn,ac',run_underlying he,i5,sizeOf,typeInfo,run_program,ow,ae6];rw [g6 (by simpa using cc)];exact ar
   split at h
   ·rename_i aR
    obtain ⟨info,d,U,ad,al,-⟩:=aP.parts aR;obtain ⟨e,rfl⟩:∃ e,d = .pointer e:=by cases d<;>simp [eB] at al;exact ⟨_,rfl⟩
    simp only [eB,tf.ptr.injEq] at al;subst al;split at h
    ·rename_i he
     cases h;exact ⟨_,by rw [ac',tg w ⟨by simp,by simp⟩,i5];exact (wc C C fun d=>key e d _ ad he ba).1,.bool _⟩
    ·cases h
   ·rename_i aR
    obtain ⟨info,d,U,ad,al,-⟩:=aP.parts aR;obtain ⟨e,rfl⟩:∃ e,d = .pointer e:=by cases d<;>simp [eB] at al;exact ⟨_,rfl⟩
    simp only [eB,tf.ptr.injEq] at al;subst al;split at h
    ·rename_i he
     cases h;exact ⟨_,by rw [ac',tg w ⟨by simp,by simp⟩,i5];exact (wc C C fun d=>key e d _ ad he ba).2,.bool _⟩
    ·cases h
   ·cases h
  ·cases h
def fX (env:Env):List Operand→Option (List ag)
  | []=>some []
  | o::r=>match aM env o with
    | some v=>match fX env r with
      | some vs=>some (v::vs)
      | none=>none
    | none=>none
theorem CV {N:Nat} {B:fV} {ro:Option Nat} {env:Env} {s:ao} {a:Act} {w:World} {p:bV} (aI:dI N B ro env s a w p) {l:List Operand} {vs:List ag}
  (h:fX env l=some vs):bH w p (l.map a.eval) vs:=by
 induction l generalizing vs with
 | nil=>cases h;exact .nil
 | cons o r a1=>
  simp only [fX] at h;split at h
  ·rename_i v aw
   split at h
   ·rename_i us hu;cases h;exact .cons _ _ _ _ (aI.aM aw) (a1 hu)
   ·cases h
  ·cases h
def eM:Nat→List ag→List ag→List ag
 | _,[],cells=>cells
 | off,c::cs,cells=>eM (off+1) cs (cells.set off c)
def wh (place:Nat→Option (Nat×Nat)):List ag→List (Nat×ag)→Option (List ag)
  | cells,[]=>some cells
  | cells,(i,v)::rest=>match place i,cellsOf v with
    | some (off,size),some cs=>match af0 cs.length size&&ao5 (off+size) cells.length with
      | true=>wh place (eM off cs cells) rest
      | false=>none
    | _,_=>none
def placesOf (Γ:cA):List (Nat×TypeId)→Option (List (Nat×Nat))
  | []=>some []
  | (off,t)::r=>match Γ.get? t with
    | some i=>match placesOf Γ r with
      | some l=>some ((off,i.size)::l)
      | none=>none
    | none=>none
def wi (env:Env):List (Nat×Operand)→Option (List (Nat×ag))
  | []=>some []
  | (i,o)::r=>match aM env o with
    | some v=>match wi env r with
      | some l=>some ((i,v)::l)
      | none=>none
    | none=>none
def Ac (env:Env) (sz:Nat):Nat→List (Nat×Operand)→Option (List ag)
  | _,[]=>some []
  | k,(i,o)::r=>match af0 i k with
    | true=>match aM env o with
      | some v=>match cellsOf v with
        | some cs=>match af0 cs.length sz with
          | true=>match Ac env sz (k+1) r with
            | some l=>some (v::l)
            | none=>none
          | false=>none
        | none=>none
      | none=>none
    | false=>none
def p' (Γ:cA) (o:Oper) (env:Env):Option ag:=
  match o.op with
  | .move x=>aM env x
  | .assign x=>aM env x
  | .pick c a b=>match aM env c with
    | some (.bool true)=>aM env a
    | some (.bool false)=>aM env b
    | _=>none
  | .binOp op t x y _=>match aM env x,aM env y with
    | some a,some b=>CT Γ op t y a b
    | _,_=>none
  | .unOp .not _ x=>match aM env x with
    | some (.bool b)=>some (.bool (!b))
    | _=>none
  | .extract x i=>match aM env x with
    | some (.cw vs)=>nth vs i
    | _=>none
  | .fieldAddr s x f=>match Γ.get? s with
    | some ⟨.struct gK,_,_,_⟩=>match nth gK f with
      | some (off,t)=>match Γ.get? t with
        | some ⟨_,_+1,_,_⟩=>match aM env x with
          | some (.ptr b o)=>some (.ptr b (o+off))
          | some (.bw cs o)=>some (.bw cs (o+off))
          | some (.mv _ cs)=>some (.bw cs off)
          | _=>none
        | _=>none
      | none=>none
    | _=>none
  | .field s x f=>match Γ.get? s with
    | some ⟨.struct gK,_,_,_⟩=>match nth gK f with
      | some (off,t)=>match Γ.get? t with
        | some i=>match aM env x with
          | some (.agg cs)=>hV i cs off
          | _=>none
        | none=>none
      | none=>none
    | _=>none
  | .load t x=>match Γ.get? t with
    | some i=>match aM env x with
      | some (.bw cs o)=>hV i cs o
      | some (.mv _ cs)=>hV i cs 0
      | _=>none
    | none=>none
  | .makeInterface t x=>match Γ.get? t with
    | some ⟨.iface _,_,_,_⟩=>none
    | some _=>match aM env x with
      | some v=>some (.iface t v)
      | none=>none
    | none=>none
  | .makeFunc (.func f) first cap=>match fX env first.toList,fX env cap.toList with
    | some a,some c=>some (.func f a c)
    | _,_=>none
  | .nilCheck x=>match aM env x with
    | some (.ptr b o)=>some (.ptr b o)
    | some (.bw cs o)=>some (.bw cs o)
    | some (.mv b cs)=>some (.mv b cs)
    | some (.func f a c)=>some (.func f a c)
    | _=>none
  | .typeAssert x _ t ok=>match Γ.get? t with
    | some ⟨.iface _,_,_,_⟩=>none
    | some i=>match aM env x with
      | some (.iface bI v)=>match af0 bI t,ok with
        | true,true=>some (.cw [v,.bool true])
        | true,false=>some v
        | false,true=>match hH i.zero with
          | some z=>some (.cw [z,.bool false])
          | none=>none
        | false,false=>none
      | some .ou=>match ok with
        | true=>match hH i.zero with
          | some z=>some (.cw [z,.bool false])
          | none=>none
        | false=>none
      | _=>none
    | none=>none
  | .call { callee := .builtin .len,args,argTypes }=>match args.toList,argTypes.toList with
    | [x],[t]=>match Γ.get? t with
      | some ⟨.aA _,_,_,_⟩=>match aM env x with
        | some (.aA _ xs _)=>some (.int .i64 xs.length)
        | _=>none
      | some ⟨.str,_,_,_⟩=>match aM env x with
        | some (.str l)=>some (.int .i64 l.length)
        | _=>none
      | _=>none
    | _,_=>none
  | .box _ x=>match aM env x with
    | some v=>match cellsOf v with
      | some cs=>some (.bw cs 0)
      | none=>none
    | none=>none
  | .build t parts=>match Γ.get? t with
    | some ⟨.struct gK,_,_,z⟩=>match placesOf Γ gK,hH z,wi env parts.toList with
      | some pl,some (.agg aW),some ps=>match wh (nth pl) aW ps with
        | some cs=>some (.agg cs)
        | none=>none
      | _,_,_=>none
    | some ⟨.arr _ e,_,_,z⟩=>match Γ.get? e,hH z,wi env parts.toList with
      | some aH,some (.agg aW),some ps=>match wh (fun i=>some (i*aH.size,aH.size)) aW ps with
        | some cs=>some (.agg cs)
        | none=>none
      | _,_,_=>none
    | _=>none
  | .buildSlice t len parts=>match Γ.get? t with
    | some ⟨.aA e,_,_,_⟩=>match Γ.get? e with
      | some aH=>match af0 parts.size len&&(ao5 (len*aH.size) 16777216&&ao5 len 16777216) with
        | true=>match Ac env aH.size 0 parts.toList with
          | some xs=>some (.aA aH.size xs .clip)
          | none=>none
        | false=>none
      | none=>none
    | _=>none
  | _=>none
def gU (P:Program) (o:Oper) (a:Act) (w:World) (p:bV) (v:ag):Prop:=
 ∃ val w' bj,(execOp a.eval o).run P w = .ok (.value val) w'∧Rel w' bj val v∧dg w p w' bj∧(∀ s,dx w p s→Kept s s w p w' bj∧dx w' bj s)
theorem gU.same {P:Program} {o:Oper} {a:Act} {w:World} {p:bV} {v:ag} {val:Value} (h:(execOp a.eval o).run P w = .ok (.value val) w) (aD:Rel w p val v) :
  gU P o a w p v:=⟨val,w,p,h,aD,.refl w p,fun s ar=>⟨.refl s w p,ar⟩⟩
theorem gU.alloc {P:Program} {o:Oper} {a:Act} {w:World} {p:bV} {v:ag} {val:Value} (vs:Array Value) (t:TypeId) (au:∀ b o,p b o→b<w.heap.size)
  (h:(execOp a.eval o).run P w = .ok (.value val) (w.alloc (.cells vs t))) (aD:Rel (w.alloc (.cells vs t)) (p.ei w.heap.size True) val v) :
  gU P o a w p v:=
 ⟨val,_,_,h,aD,uF au _ _,fun _ ar=>⟨CO _ _,z' ar _ _⟩⟩
theorem aZ.m0 {P:Program} {N:Nat} {o:Oper} {env:Env} {s:ao} {v:ag} (ax:gJ o=true)
  (h:∀ ro B a w p,dI N B ro env s a w p→gU P o a w p v):aZ P N o env s (fun x aj=>x=v∧aj=s) (fun _ _=>False):=by
 refine ⟨ax,fun ro B a w p aI=>?_⟩;obtain ⟨val,w',bj,cS,aD,hle,aE⟩:=h ro B a w p aI;rw [cS];obtain ⟨mx,iF⟩:=aE s aI.wf;exact ⟨s,bj,hle,mx,iF,v,⟨rfl,rfl⟩,aD⟩
theorem gV {P:Program} {x:Sem Value} {v:Value} {w w':World} (h:x.run P w = .ok v w'):(do pure (.value (← x)):Sem Next).run P w = .ok (.value v) w':=by
 simp only [ac',h,i5,ae6]
theorem lB (b o n:Nat):(⟨b,o,none⟩:Addr).add n=⟨b,o+n,none⟩:=by
 unfold Addr.add;split<;>simp_all
theorem Kw {w:World} {p:bV} {vs:List Value} {cells r:List ag} {off:Nat} (aD:bH w p vs cells) (h:q3 off cells=some r):bH w p (vs.drop off) r:=by
 rw [RZ h];exact aD.drop off
theorem Ad {P:Program} {Γ:cA} (aP:bQ P Γ) {t:TypeId} {i:bO} (aR:Γ.get? t=some i) {w:World} {p:bV} {b base off:Nat} {vs:List Value} {cells:List ag} {v:ag}
  (aB:∀ j u,vs[j]? = some u→w.cell? ⟨b,base+j,none⟩=some u) (aD:bH w p vs cells) (h:hV i cells off=some v) :
  ∃ val,(loadVar t ⟨b,base+off,none⟩).run P w = .ok val w∧Rel w p val v:=by
 obtain ⟨info,d,U,ad,al,bf,-⟩:=aP.parts aR;unfold hV at h;split at h
 ·cases h
 ·rename_i r ax
  have jx:=Kw aD ax;have jN:∀ j u,(vs.drop off)[j]? = some u→w.cell? ((⟨b,base+off,none⟩:Addr).add j)=some u:=by
   intro j u hu;rw [lB,ao4];exact aB _ _ (by simpa using hu)
  split at h
  ·rename_i gK bt
   split at h
   ·rename_i cs hI
    cases h;obtain ⟨rfl,hlen⟩:=CQ hI;obtain ⟨f,rfl,-⟩:=Aa (al.trans bt);have aC:((vs.drop off).take i.size).length=info.size:=by rw [ae8,jx.length,bf];omega
    have Ae:=run_loadCells_list (P:=P) w ⟨b,base+off,none⟩ ((vs.drop off).take i.size) (fun j u hu=>jN j u (by
     rw [ai4] at hu;split at hu;exact hu;cases hu))
    rw [aC] at Ae;refine ⟨_,?_,.agg _ _ (by simpa using jx.take i.size)⟩;simp only [loadVar,ac',yu ad,i5,wa,ag7,sizeOf,typeInfo,run_program,U,ae6,Ae]
   ·cases h
  ·rename_i Kx ji bt
   split at h
   ·rename_i cs hI
    cases h;obtain ⟨rfl,hlen⟩:=CQ hI;obtain rfl:=Ab (al.trans bt);have aC:((vs.drop off).take i.size).length=info.size:=by rw [ae8,jx.length,bf];omega
    have Ae:=run_loadCells_list (P:=P) w ⟨b,base+off,none⟩ ((vs.drop off).take i.size) (fun j u hu=>jN j u (by
     rw [ai4] at hu;split at hu;exact hu;cases hu))
    rw [aC] at Ae;refine ⟨_,?_,.agg _ _ (by simpa using jx.take i.size)⟩;simp only [loadVar,ac',yu ad,i5,wa,ag7,sizeOf,typeInfo,run_program,U,ae6,Ae]
   ·cases h
  ·cases h
  ·rename_i ar a6 ai
   split at h
   ·rename_i x xs
    cases h;generalize Ky:vs.drop off=R6 at jx jN;cases jx with
    | cons u _ us _ ab aN=>
    have CW:=jN 0 u C;rw [lB,ao'] at CW;refine ⟨u,?_,ab⟩;have F5:=Kt (d:=d) (fun gK=>by rw [al];exact ar gK) (fun n e=>by rw [al];exact a6 n e) (by rw [al];exact ai);simp [loadVar,yu ad,F5,CW]
   ·cases h
theorem R7 {P:Program} {Γ:cA} (aP:bQ P Γ) {t:TypeId} {i:bO} (aR:Γ.get? t=some i) {w:World} {p:bV} {off:Nat} {vs:Array Value} {cells:List ag} {v:ag}
  (aD:bH w p vs.toList cells) (h:hV i cells off=some v):∃ val,(part t vs off).run P w = .ok val w∧Rel w p val v:=by
 obtain ⟨info,d,U,ad,al,bf,-⟩:=aP.parts aR;unfold hV at h;split at h
 ·cases h
 ·rename_i r ax
  have jx:=Kw aD ax;split at h
  ·rename_i gK bt
   split at h
   ·rename_i cs hI
    cases h;obtain ⟨rfl,hlen⟩:=CQ hI;obtain ⟨f,rfl,-⟩:=Aa (al.trans bt);refine ⟨.agg (vs.extract off (off+info.size)),?_,.agg _ _ ?_⟩
    ·simp only [part,ac',yu ad,i5,wa,ag7,sizeOf,typeInfo,run_program,U,ae6]
    ·have:(vs.extract off (off+info.size)).toList=(vs.toList.drop off).take i.size:=by simp [av6,bf]
     rw [this];exact jx.take i.size
   ·cases h
  ·rename_i Kx ji bt
   split at h
   ·rename_i cs hI
    cases h;obtain ⟨rfl,hlen⟩:=CQ hI;obtain rfl:=Ab (al.trans bt);refine ⟨.agg (vs.extract off (off+info.size)),?_,.agg _ _ ?_⟩
    ·simp only [part,ac',yu ad,i5,wa,ag7,sizeOf,typeInfo,run_program,U,ae6]
    ·have:(vs.extract off (off+info.size)).toList=(vs.toList.drop off).take i.size:=by simp [av6,bf]
     rw [this];exact jx.take i.size
   ·cases h
  ·cases h
  ·rename_i ar a6 ai
   split at h
   ·rename_i x xs
    cases h;generalize Ky:vs.toList.drop off=R6 at jx;cases jx with
    | cons u _ us _ ab aN=>
    have bq:vs[off]? = some u:=by
     have:=ae7 (fun l=>l[0]?) Ky;simpa using this
    refine ⟨u,?_,ab⟩;have F5:=Kt (d:=d) (fun gK=>by rw [al];exact ar gK) (fun n e=>by rw [al];exact a6 n e) (by rw [al];exact ai);simp [part,yu ad,F5,bq]
   ·cases h
theorem R8 {w:World} {p:bV}:∀ (us:List Value) (cs:List ag) (off:Nat) (vs:List Value) (xs:List ag),bH w p us cs→bH w p vs xs →
  bH w p ((us.zipIdx).foldl (fun l (c,j)=>l.set (off+j) c) vs) (eM off cs xs):=by
 have key:∀ (us:List Value) (cs:List ag) (off k:Nat) (vs:List Value) (xs:List ag),bH w p us cs→bH w p vs xs →
   bH w p ((us.zipIdx k).foldl (fun l (c,j)=>l.set (off+j) c) vs) (eM (off+k) cs xs):=by
  intro us
  induction us with
  | nil=>intro cs off k vs xs h aw;cases h;exact aw
  | cons u us a1=>
   intro cs off k vs xs h aw;cases h with
   | cons _ c _ cs aB aN=>
    simp only [ax5,ah7,eM];have:=a1 cs off (k+1) _ _ aN (aw.set (off+k) aB);rwa [← ao4] at this
 intro us cs off vs xs h aw;simpa using key us cs off 0 vs xs h aw
theorem Kz (l:List (Value×Nat)) (off:Nat):∀ (vs:Array Value),(l.foldl (fun cs (c,j)=>cs.setIfInBounds (off+j) c) vs).toList=l.foldl (fun cs (c,j)=>cs.set (off+j) c) vs.toList:=by
 induction l with
 | nil=>intro vs;rfl
 | cons x l a1=>intro vs;simp only [ah7,a1,Array.toList_setIfInBounds]
theorem KA {w:World} {p:bV} {place:Nat→Option (Nat×Nat)}:∀ (ps:List (Nat×Value)) (nL:List (Nat×ag)) (vs:Array Value) (xs r:List ag),
  ps.map (·.1)=nL.map (·.1)→bH w p (ps.map (·.2)) (nL.map (·.2))→bH w p vs.toList xs→wh place xs nL=some r →
  ∃ cs,Instr.fill place vs ps=some cs∧bH w p cs.toList r:=by
 intro ps
 induction ps with
 | nil=>
  intro nL vs xs r U ad al h;cases nL with
  | nil=>cases h;exact ⟨vs,rfl,al⟩
  | cons q nL=>simp at U
 | cons x ps a1=>
  intro nL vs xs r U ad al h;cases nL with
  | nil=>simp at U
  | cons q nL=>
   obtain ⟨i,v⟩:=x;obtain ⟨CP,u⟩:=q;simp only [ae3,List.cons.injEq] at U;obtain ⟨rfl,U⟩:=U;simp only [ae3] at ad;cases ad with
   | cons _ _ _ _ aw aN=>
   simp only [wh] at h;split at h
   ·rename_i off size cs aF hI
    split at h
    ·rename_i uH
     simp only [f8] at uH;have cc:=ae0 uH.1;have hle:=an4 uH.2;have nM:=q2 aw hI;have eP:v.cells.size=size:=by rw [← cc,← nM.length,ae9]
     have c':vs.size=xs.length:=by rw [← al.length,ae9]
     have KB:=R8 _ _ off _ _ nM al;have bG:v.cells.toList.zipIdx=(v.cells.zipIdx).toList:=by simp
     rw [bG,← Kz] at KB;obtain ⟨out,ai,Af⟩:=a1 nL _ _ r U aN KB h;refine ⟨out,?_,Af⟩;simp only [Instr.fill,aF];rw [f0 (by simp [eP];omega),← ai,← aw6]
    ·cases h
   ·cases h
theorem KC {N:Nat} {B:fV} {ro:Option Nat} {env:Env} {s:ao} {a:Act} {w:World} {p:bV} (aI:dI N B ro env s a w p) {l:List (Nat×Operand)} {nL:List (Nat×ag)}
  (h:wi env l=some nL):(l.map fun x=>(x.1,a.eval x.2)).map (·.1)=nL.map (·.1)∧bH w p ((l.map fun x=>(x.1,a.eval x.2)).map (·.2)) (nL.map (·.2)):=by
 induction l generalizing nL with
 | nil=>cases h;exact ⟨rfl,.nil⟩
 | cons x l a1=>
  obtain ⟨i,o⟩:=x;simp only [wi] at h;split at h
  ·rename_i v aw
   split at h
   ·rename_i r aD
    cases h;obtain ⟨U,ad⟩:=a1 aD;exact ⟨by simp only [ae3,U],.cons _ _ _ _ (aI.aM aw) ad⟩
   ·cases h
  ·cases h
theorem R9 {P:Program} {Γ:cA} (aP:bQ P Γ) (gK:List Field):∀ {pl:List (Nat×Nat)},placesOf Γ (gK.map fun x=>(x.offset,x.type))=some pl →
  gK.mapM (fun f=>(P.info? f.type).map fun i=>(f.offset,i.size))=some pl:=by
 induction gK with
 | nil=>intro pl h;cases h;rfl
 | cons f gK a1=>
  intro pl h;simp only [ae3,placesOf] at h;split at h
  ·rename_i i aR
   split at h
   ·rename_i l aC
    cases h;obtain ⟨info,d,U,-,-,bf,-⟩:=aP.parts aR;simp [ay',U,a1 aC,bf]
   ·cases h
  ·cases h
theorem KD (sz:Nat):∀ (vs:List Value) (k:Nat) (pre post:List Value),pre.length=k*sz→post.length=vs.length*sz→(∀ v∈vs,v.cells.size=sz) →
  Instr.fill (fun i=>some (i*sz,sz)) (pre++post).toArray ((vs.zipIdx k).map fun x=>(x.2,x.1))=some (pre++flat vs).toArray:=by
 intro vs
 induction vs with
 | nil=>intro k pre post U ad al;have:post=[]:=ai8 s8;subst this;simp [Instr.fill,flat]
 | cons v vs a1=>
  intro k pre post U ad al;have aw:=al v (i6 ..);simp only [ax5,ae3,Instr.fill];have hlen:post.length=sz+vs.length*sz:=by rw [ad,g9,ak7];omega
  rw [f0 (by simp [aw];omega)];have wj:(Array.foldl (fun cs x=>cs.setIfInBounds (k*sz+x.2) x.1) (pre++post).toArray v.cells.zipIdx)=((pre++v.cells.toList)++post.drop sz).toArray:=by
   apply ap8;rw [← aw6];have:=Kz v.cells.zipIdx.toList (k*sz) (pre++post).toArray;simp only at this ⊢;rw [this];have bG:v.cells.zipIdx.toList=v.cells.toList.zipIdx:=by simp
   rw [bG];have gen:∀ (us:List Value) (j:Nat) (a b:List Value),a.length=k*sz+j→us.length≤b.length →
     (us.zipIdx j).foldl (fun cs (x:Value×Nat)=>cs.set (k*sz+x.2) x.1) (a++b)=a++us++b.drop us.length:=by
    intro us
    induction us with
    | nil=>intro j a b _ _;simp
    | cons u us R'=>
     intro j a b a6 an;cases b with
     | nil=>simp at an
     | cons c b=>
      simp only [ax5,ah7,g9,ar4];have:(a++c::b).set (k*sz+j) u=(a++[u])++b:=by
       rw [List.set_append_right _ _ af];have:k*sz+j-a.length=0:=by omega
       rw [this];simp
      rw [this,R' (j+1) (a++[u]) b cV (by simpa using an)];simp
   have fC:v.cells.toList.length=sz:=by rw [ae9,aw]
   have:=gen v.cells.toList 0 pre post af (by rw [fC];omega);rw [fC] at this;simpa using this
  rw [wj];have:=a1 (k+1) (pre++v.cells.toList) (post.drop sz) (by simp [U,aw,ak7]) (by rw [ai1,hlen];omega) (fun u hu=>al u (i0 _ hu));rw [this];simp [flat,ak0]
theorem Sa {N:Nat} {B:fV} {ro:Option Nat} {env:Env} {s:ao} {a:Act} {w:World} {p:bV} (aI:dI N B ro env s a w p) {sz:Nat}:∀ {l:List (Nat×Operand)} {k:Nat} {xs:List ag},
    Ac env sz k l=some xs→∃ vs:List Value,(l.map fun x=>(x.1,a.eval x.2))=(vs.zipIdx k).map (fun x=>(x.2,x.1))∧bH w p vs xs∧(∀ v∈vs,v.cells.size=sz)∧vs.length=l.length:=by
  intro l
  induction l with
  | nil=>intro k xs h;cases h;exact ⟨[],rfl,.nil,by simp,rfl⟩
  | cons x l a1=>
    intro k xs h;obtain ⟨i,o⟩:=x;simp only [Ac] at h;split at h
    · rename_i an
      split at h
      · rename_i v aw
        split at h
        · rename_i cs hI
          split at h
          · rename_i aC
            split at h
            · rename_i r aD
              cases h;have:=ae0 an;subst this;obtain ⟨vs,U,ad,al,bf⟩:=a1 aD;have eW:=aI.aM aw;have cc:(a.eval o).cells.size=sz:=by
                rw [← ae0 aC,← (q2 eW hI).length,ae9]
              exact ⟨a.eval o::vs,by simp [U],.cons _ _ _ _ eW ad,by
                intro u hu;rcases af2.1 hu with rfl|hu;exact cc;exact al u hu,by simp [bf]⟩
            · cases h
          · cases h
        · cases h
      · cases h
    · cases h
section
variable {P:Program} {Γ:cA} (aP:bQ P Γ) {N:Nat} {B:fV} {ro:Option Nat} {env:Env} {s:ao} {a:Act} {w:World} {p:bV} (aI:dI N B ro env s a w p)
include aI
theorem KE {o:Oper} {x:Operand} {v:ag} (ai:o.op = .move x∨o.op = .assign x) (h:aM env x=some v):gU P o a w p v:=by
 refine .same (val:=a.eval x) ?_ (aI.aM h);unfold execOp;rcases ai with ai|ai<;>rw [ai]<;>rfl
theorem KF {o:Oper} {c x y:Operand} {v:ag} {t:Bool} (ai:o.op = .pick c x y) (aB:aM env c=some (.bool t)) (h:aM env (if t then x else y)=some v):gU P o a w p v:=by
 refine .same (val:=a.eval (if t then x else y)) ?_ (aI.aM h);unfold execOp;rw [ai];simp only [CN (aI.aM aB),asBool,ac',ae6,i5];cases t<;>rfl
include aP
theorem Sb {o:Oper} {op:BinOp} {t yt:TypeId} {x y:Operand} {u v r:ag} (ai:o.op = .binOp op t x y yt) (ab:aM env x=some u) (ay:aM env y=some v)
  (h:CT Γ op t y u v=some r):gU P o a w p r:=by
 obtain ⟨val,U,ad⟩:=R4 aP aI (yt:=yt) ab ay h;refine .same (val:=val) ?_ ad;unfold execOp;rw [ai];exact gV U
omit aP in
theorem Sc {o:Oper} {t:TypeId} {x:Operand} {b:Bool} (ai:o.op = .unOp .not t x) (ab:aM env x=some (.bool b)):gU P o a w p (.bool (!b)):=by
 refine .same (val := .bool (!b)) ?_ (.bool _);unfold execOp;rw [ai];simp only [CN (aI.aM ab)];exact gV (by simp [Op.unary])
omit aP in
theorem Sd {o:Oper} {x:Operand} {i:Nat} {vs:List ag} {v:ag} (ai:o.op = .extract x i) (ab:aM env x=some (.cw vs)) (h:nth vs i=some v):gU P o a w p v:=by
 have aD:=aI.aM ab;generalize aw:a.eval x=dR at aD;cases aD with
 | cw us _ aC=>
 rw [yq] at h;obtain ⟨u,hu,Ag⟩:=aC.get h;refine .same (val:=u) ?_ Ag;unfold execOp;rw [ai];simp only [aw]
 exact gV (by
  have:us[i]? = some u:=by simpa using hu
  simp [Instr.extract,this])
theorem F6 {o:Oper} {S:TypeId} {x:Operand} {f sz m1:Nat} {gK:List (Nat×TypeId)} {z:Value} {off:Nat} {t:TypeId} {dP:bO} {v:ag} (ai:o.op = .fieldAddr S x f)
  (ck:Γ.get? S=some ⟨.struct gK,sz,m1,z⟩) (a7:nth gK f=some (off,t)) (aN:Γ.get? t=some dP) (bq:dP.size≠0)
  (h:(∃ b o,aM env x=some (.ptr b o)∧v = .ptr b (o+off))∨(∃ cs o,aM env x=some (.bw cs o)∧v = .bw cs (o+off))∨(∃ b cs,aM env x=some (.mv b cs)∧v = .bw cs off)):gU P o a w p v:=by
 obtain ⟨info,d,U,ad,al,-⟩:=aP.parts ck;obtain ⟨mZ,c9,ow,ox,wg,p8,-⟩:=aP.parts aN;obtain ⟨Ah,rfl,kA⟩:=Aa al;rw [yq,kA,ae4] at a7;obtain ⟨fd,F7,F8⟩:=ay3.1 a7;cases F8;have F9:Ah[f]? = some fd:=by simpa using F7
 have cc:mZ.size≠0:=by rw [p8];exact bq
 have key:∀ b o',a.eval x = .pointer (some ⟨b,o',none⟩)→(execOp a.eval o).run P w = .ok (.value (.pointer (some ⟨b,o'+fd.offset,none⟩))) w:=by
  intro b o' ab;unfold execOp;rw [ai];simp only [ab];refine gV ?_;simp [Instr.fieldAt,run_underlying ad,F9,Instr.sureAddr,fieldPlace,sizeOf,typeInfo,ow,cc,lB]
 rcases h with ⟨b,o',ab,rfl⟩|⟨cs,o',ab,rfl⟩|⟨b,cs,ab,rfl⟩
 ·have aD:=aI.aM ab
  generalize aw:a.eval x=dR at aD;cases aD;exact .same (key _ _ aw) (.ptr _ _)
 ·have aD:=aI.aM ab
  generalize aw:a.eval x=dR at aD;cases aD with
  | bw b base uI off vs _ lY aB gW=>
  exact .same (key _ _ aw) (.bw b base _ _ vs _ af aB gW)
 ·have aD:=aI.aM ab
  generalize aw:a.eval x=dR at aD;cases aD with
  | mv b vs _ _ _ aB gW=>
  exact .same (key _ _ aw) (.bw b 0 _ _ vs _ C aB gW)
theorem Se {o:Oper} {S:TypeId} {x:Operand} {f sz m1:Nat} {gK:List (Nat×TypeId)} {z:Value} {off:Nat} {t:TypeId} {dP:bO} {cs:List ag} {v:ag} (ai:o.op = .field S x f)
  (ck:Γ.get? S=some ⟨.struct gK,sz,m1,z⟩) (a7:nth gK f=some (off,t)) (aN:Γ.get? t=some dP) (ab:aM env x=some (.agg cs)) (h:hV dP cs off=some v):gU P o a w p v:=by
 obtain ⟨info,d,U,ad,al,-⟩:=aP.parts ck;obtain ⟨Ah,rfl,kA⟩:=Aa al;rw [yq,kA,ae4] at a7;obtain ⟨fd,F7,F8⟩:=ay3.1 a7;cases F8;have F9:Ah[f]? = some fd:=by simpa using F7
 have aD:=aI.aM ab;generalize aw:a.eval x=dR at aD;cases aD with
 | agg us _ aC=>
 obtain ⟨val,cS,eW⟩:=R7 aP aN aC h;refine .same (val:=val) ?_ eW;unfold execOp;rw [ai];simp only [aw];refine gV ?_;simp [Instr.field,run_underlying ad,F9,asAgg,cS]
theorem KG {o:Oper} {t:TypeId} {x:Operand} {i:bO} {cs:List ag} {off:Nat} {v:ag} (ai:o.op = .load t x) (aN:Γ.get? t=some i) (ab:aM env x=some (.bw cs off))
  (h:hV i cs off=some v):gU P o a w p v:=by
 have aD:=aI.aM ab;generalize aw:a.eval x=dR at aD;cases aD with
 | bw b base uI _ vs _ lY aB gW=>
 subst lY;obtain ⟨val,cS,eW⟩:=Ad aP aN (b:=b) (base:=base) (fun j u hu=>(aB j u hu).2) gW h;refine .same (val:=val) ?_ eW;unfold execOp;rw [ai];simp only [aw];refine gV ?_;simp only [Instr.loadAt,Instr.sureAddr,ac',ae6,i5,cS]
theorem Sf {o:Oper} {t:TypeId} {x:Operand} {i:bO} {cs:List ag} {b:Nat} {v:ag} (ai:o.op = .load t x) (aN:Γ.get? t=some i) (ab:aM env x=some (.mv b cs))
  (h:hV i cs 0=some v):gU P o a w p v:=by
 have aD:=aI.aM ab;generalize aw:a.eval x=dR at aD;cases aD with
 | mv b vs _ _ _ aB gW=>
 obtain ⟨val,cS,eW⟩:=Ad aP aN (b:=b) (base:=0) (fun j u hu=>(aB j u hu).2) gW h;refine .same (val:=val) ?_ eW;unfold execOp;rw [ai];simp only [aw];refine gV ?_;simp only [Instr.loadAt,Instr.sureAddr,ac',ae6,i5];simpa using cS
theorem Sg {o:Oper} {t:TypeId} {x:Operand} {i:bO} {v:ag} (ai:o.op = .makeInterface t x) (aN:Γ.get? t=some i) (aR:∀ b,i.bF ≠ .iface b) (ab:aM env x=some v) :
  gU P o a w p (.iface t v):=by
 obtain ⟨info,d,U,ad,al,-⟩:=aP.parts aN;refine .same (val := .iface t (a.eval x)) ?_ (.iface _ _ _ (aI.aM ab));unfold execOp;rw [ai];refine gV ?_;have ax:∀ ms,d ≠ .interface ms:=fun ms e=>by subst e;exact aR _ al.symm
 simp only [Instr.makeInterface,ac',run_underlying ad,i5];cases d<;>first|rfl|exact absurd C (ax _)
omit aP in
theorem Sh {o:Oper} {f:FuncId} {first cap:Array Operand} {Ai hB:List ag} (ai:o.op = .makeFunc (.func f) first cap) (a7:fX env first.toList=some Ai) (aB:fX env cap.toList=some hB) :
  gU P o a w p (.func f Ai hB):=by
 refine .same (val := .func (.func f) (first.map a.eval) (cap.map a.eval)) ?_ (.func _ _ _ _ _ (by simpa using CV aI a7) (by simpa using CV aI aB));unfold execOp;rw [ai];exact gV C
omit aP in
theorem CX {o:Oper} {x:Operand} {v:ag} (ai:o.op = .nilCheck x) (ab:aM env x=some v) (h:(∃ b o,v = .ptr b o)∨(∃ cs o,v = .bw cs o)∨(∃ b cs,v = .mv b cs)∨(∃ f a c,v = .func f a c)):gU P o a w p v:=by
 have aD:=aI.aM ab;refine .same (val:=a.eval x) ?_ aD;unfold execOp;rw [ai];simp only [];rcases h with ⟨b,o',rfl⟩|⟨cs,o',rfl⟩|⟨b,cs,rfl⟩|⟨f,as,cs,rfl⟩<;>generalize aw:a.eval x=dR at aD<;>cases aD<;>rfl
theorem CY {o:Oper} {x:Operand} {CZ t:TypeId} {i:bO} {ok:Bool} {u v:ag} (ai:o.op = .typeAssert x CZ t ok) (aN:Γ.get? t=some i) (aR:∀ b,i.bF ≠ .iface b) (ab:aM env x=some u)
  (h:(∃ y,u = .iface t y∧v=if ok then .cw [y,.bool true] else y) ∨
   (ok=true∧(u = .ou∨∃ bI y,bI≠t∧u = .iface bI y)∧∃ z,hH i.zero=some z∧v = .cw [z,.bool false])):gU P o a w p v:=by
 obtain ⟨info,d,U,ad,al,bf,bE,hf⟩:=aP.parts aN;have ax:∀ ms,d ≠ .interface ms:=fun ms e=>by subst e;exact aR _ al.symm
 have aD:=aI.aM ab;generalize aw:a.eval x=dR at aD;have bG:(zeroValue t).run P w = .ok i.zero w:=by simp [zeroValue,typeInfo,U,hf]
 rcases h with ⟨y,rfl,rfl⟩|⟨rfl,hu,z,C0,rfl⟩
 ·cases aD with
  | iface _ val _ ay=>
  have cS:(Instr.typeAssert (.iface t val) CZ t ok).run P w = .ok (if ok then .tuple #[val,.bool true] else val) w:=by
   cases d<;>first|exact absurd C (ax _)|(simp only [Instr.typeAssert,ac',run_underlying ad,i5,ag7,ae6])
  refine .same (val:=if ok then .tuple #[val,.bool true] else val) ?_ (by cases ok;exact ay;exact .cw _ _ (.cons _ _ _ _ ay (.cons _ _ _ _ (.bool _) .nil)));unfold execOp;rw [ai];simp only [aw];exact gV cS
 ·have cS:(Instr.typeAssert dR CZ t true).run P w = .ok (.tuple #[i.zero,.bool false]) w:=by
   rcases hu with rfl|⟨bI,y,cJ,rfl⟩
   ·cases aD
    cases d<;>first|exact absurd C (ax _)|(simp only [Instr.typeAssert,ac',run_underlying ad,i5,ag7,bG,ae6])
   ·cases aD
    cases d<;>first|exact absurd C (ax _)|(simp only [Instr.typeAssert,ac',run_underlying ad,i5,ag7,f0 cJ,bG,ae6])
  refine .same (val := .tuple #[i.zero,.bool false]) ?_ (.cw _ _ (.cons _ _ _ _ (q4 C0) (.cons _ _ _ _ (.bool _) .nil)));unfold execOp;rw [ai];simp only [aw];exact gV cS
theorem KH {o:Oper} {x:Operand} {t:TypeId} {i:bO} {u:ag} {n:Nat} (ai:o.op = .call { callee := .builtin .len,args := #[x],argTypes := #[t] }) (aN:Γ.get? t=some i) (ab:aM env x=some u)
  (h:(∃ e sz xs own,i.bF = .aA e∧u = .aA sz xs own∧n=xs.length)∨(∃ l,i.bF = .str∧u = .str l∧n=l.length)):gU P o a w p (.int .i64 n):=by
 obtain ⟨info,d,U,ad,al,-⟩:=aP.parts aN;have aD:=aI.aM ab;generalize aw:a.eval x=dR at aD;refine .same (val := .int .i64 n) ?_ (.int _ _);unfold execOp;rw [ai];simp only [resolve,invoke,builtin,ac',ae6,i5,ar2,ae3,ah1,aw];rcases h with ⟨e,sz,xs,own,bt,rfl,rfl⟩|⟨l,bt,rfl,rfl⟩
 ·have ax:d = .slice e:=by rw [bt] at al;cases d<;>simp [eB] at al;rw [al]
  subst ax;cases aD with
  | h4=>simp [Builtin.len_,run_underlying ad,goInt]
  | iE=>simp [Builtin.len_,run_underlying ad,goInt]
  | aA g off n cap sz vs _ _ az aC aB aD ar hm aE cy ai=>simp [Builtin.len_,run_underlying ad,goInt,aC]
 ·have ax:d = .string:=by rw [bt] at al;cases d<;>simp [eB] at al;rfl
  subst ax;cases aD with
  | str b _ e=>subst e;simp [Builtin.len_,run_underlying ad,goInt]
omit aP in
theorem Si {o:Oper} {t:TypeId} {x:Operand} {v:ag} {cs:List ag} (ai:o.op = .box t x) (ab:aM env x=some v) (aB:cellsOf v=some cs):gU P o a w p (.bw cs 0):=by
 have aD:=aI.aM ab;have nM:=q2 aD aB;refine gU.alloc (a.eval x).cells t aI.wf.lt (val := .pointer (some ⟨w.heap.size,0,none⟩)) ?_ ?_
 ·unfold execOp
  rw [ai];exact gV C
 ·refine .bw _ 0 0 0 (a.eval x).cells.toList _ C ?_ (nM.mono (uF aI.wf.lt _ _))
  have:=FZ (w:=w) (p:=p) (a.eval x).cells.toList t;simpa using this
theorem Sj {o:Oper} {t:TypeId} {parts:Array (Nat×Operand)} {gK:List (Nat×TypeId)} {sz m1:Nat} {z:Value} {pl:List (Nat×Nat)} {aW cs:List ag} {ps:List (Nat×ag)}
  (ai:o.op = .build t parts) (aN:Γ.get? t=some ⟨.struct gK,sz,m1,z⟩) (ih:placesOf Γ gK=some pl) (bG:hH z=some (.agg aW)) (qa:wi env parts.toList=some ps)
  (h:wh (nth pl) aW ps=some cs):gU P o a w p (.agg cs):=by
 obtain ⟨info,d,U,ad,al,bf,bE,hf⟩:=aP.parts aN;obtain ⟨Ah,rfl,kA⟩:=Aa al;rw [kA] at ih;have Sk:=R9 aP Ah.toList ih;have F':=q4 (w:=w) (p:=p) bG;obtain ⟨b2,bU⟩:=KC aI qa;have uJ:bH w p z.cells.toList aW:=q2 F' C;have Sl:(fun x=>pl.toArray[x]?)=nth pl:=by funext x;rw [yq];simp
 obtain ⟨out,th,q5⟩:=KA _ _ z.cells aW cs b2 bU uJ h;refine .same (val := .agg out) ?_ (.agg _ _ q5);unfold execOp;rw [ai];refine gV (run_build w t _ out ?_);unfold Program.built;simp only [U,ad,hf,Sk];rw [Sl];simpa using th
theorem Sm {o:Oper} {t e:TypeId} {n:Nat} {parts:Array (Nat×Operand)} {sz m1:Nat} {z:Value} {aH:bO} {aW cs:List ag} {ps:List (Nat×ag)}
  (ai:o.op = .build t parts) (aN:Γ.get? t=some ⟨.arr n e,sz,m1,z⟩) (he:Γ.get? e=some aH) (bG:hH z=some (.agg aW)) (qa:wi env parts.toList=some ps)
  (h:wh (fun i=>some (i*aH.size,aH.size)) aW ps=some cs):gU P o a w p (.agg cs):=by
 obtain ⟨info,d,U,ad,al,bf,bE,hf⟩:=aP.parts aN;obtain ⟨mZ,c9,ow,ox,wg,p8,KI,C1⟩:=aP.parts he;obtain rfl:=Ab al;have F':=q4 (w:=w) (p:=p) bG;obtain ⟨b2,bU⟩:=KC aI qa;have uJ:bH w p z.cells.toList aW:=q2 F' C;obtain ⟨out,th,q5⟩:=KA _ _ z.cells aW cs b2 bU uJ h;refine .same (val := .agg out) ?_ (.agg _ _ q5);unfold execOp;rw [ai];refine gV (run_build w t _ out ?_);unfold Program.built;simp only [U,ad,hf,ow,p8];simpa using th
theorem Sn {o:Oper} {t e:TypeId} {len:Nat} {parts:Array (Nat×Operand)} {sz m1:Nat} {z:Value} {aH:bO} {xs:List ag}
  (ai:o.op = .buildSlice t len parts) (aN:Γ.get? t=some ⟨.aA e,sz,m1,z⟩) (he:Γ.get? e=some aH) (hlen:parts.size=len) (C2:len*aH.size≤16777216) (acX:len≤16777216)
  (h:Ac env aH.size 0 parts.toList=some xs):gU P o a w p (.aA aH.size xs .clip):=by
 obtain ⟨info,d,U,ad,al,-⟩:=aP.parts aN;obtain ⟨mZ,c9,ow,ox,wg,p8,KI,C1⟩:=aP.parts he;have ax:d = .slice e:=by cases d<;>simp [eB] at al;rw [al]
 subst ax;obtain ⟨vs,b2,bU,e1,oy⟩:=Sa aI h;have fC:vs.length=len:=by rw [oy,ae9,hlen]
 have kA:(flat vs).length=len*aH.size:=by
  rw [← fC];clear b2 bU oy fC h
  induction vs with
  | nil=>simp [flat]
  | cons v vs a1=>
   have:=a1 (fun u hu=>e1 u (i0 _ hu));simp only [flat,ak0,f6,ae9,g9] at this ⊢;rw [e1 v (i6 ..)];have e3:(aD9 (fun v=>v.cells.toList) vs).length=vs.length*aH.size:=this;rw [e3,ak7];omega
 have th:∀ my:Array Value,my.size=len*aH.size→Instr.fill (fun i=>some (i*aH.size,aH.size)) my (parts.map fun x=>(x.1,a.eval x.2)).toList=some (flat vs).toArray:=by
  intro my pq;have:=KD aH.size vs 0 [] my.toList ba (by rw [ae9,pq,fC]) e1;simp only [d8] at this;rw [Array.toList_map,b2];simpa using this
 refine gU.alloc (flat vs).toArray e aI.wf.lt (val := .slice (some ⟨w.heap.size,0,none⟩) len len) ?_ ?_
 ·unfold execOp
  rw [ai];refine gV ?_;have acY:¬ (16777216<len*aH.size):=by omega
  have m2:¬ (len*aH.size>2^24):=by omega
  unfold Instr.buildSlice;simp only [ac',run_underlying ad,i5,sizeOf,typeInfo,run_program,ow,ae6,p8,f0 m2];by_cases bq:len*aH.size=0
  ·rw [g6 bq,ac',ae6,i5,th _ ba]
   rfl
  ·rw [f0 bq]
   simp only [zeroValue,typeInfo,ac',run_program,ow,C1,ae6,i5];rw [th _ ba];rfl
 ·refine .aA _ 0 _ _ _ vs _ _ ba (by rw [← bU.length,fC]) ?_ (bU.mono (uF aI.wf.lt _ _)) e1 ?_ (g8 _) (fun _=>rfl) (fun b an=>by cases an)
  ·exact FZ (w:=w) (p:=p) (flat vs) e
  ·omega
theorem KJ {o:Oper} {v:ag} (h:p' Γ o env=some v):gU P o a w p v:=by
 unfold p' at h;split at h
 ·rename_i x ai;exact KE aI (.inl ai) h
 ·rename_i x ai;exact KE aI (.inr ai) h
 ·rename_i c x y ai
  split at h
  ·rename_i aB;exact KF aI (t:=true) ai aB h
  ·rename_i aB;exact KF aI (t:=false) ai aB h
  ·cases h
 ·rename_i op t x y yt ai
  split at h
  ·rename_i u ff ab ay;exact Sb aP aI ai ab ay h
  ·cases h
 ·rename_i t x ai
  split at h
  ·rename_i b an;cases h;exact Sc aI ai an
  ·cases h
 ·rename_i x i ai
  split at h
  ·rename_i vs ab;exact Sd aI ai ab h
  ·cases h
 ·rename_i S x f ai
  split at h
  ·rename_i gK sz m1 z ck
   split at h
   ·rename_i off t a7
    split at h
    ·rename_i bF n j0 aep aN
     split at h
     ·rename_i b o' ab;cases h;exact F6 aP aI ai ck a7 aN ba (.inl ⟨_,_,ab,rfl⟩)
     ·rename_i cs o' ab;cases h;exact F6 aP aI ai ck a7 aN ba (.inr (.inl ⟨_,_,ab,rfl⟩))
     ·rename_i b cs ab;cases h;exact F6 aP aI ai ck a7 aN ba (.inr (.inr ⟨_,_,ab,rfl⟩))
     ·cases h
    ·cases h
   ·cases h
  ·cases h
 ·rename_i S x f ai
  split at h
  ·rename_i gK sz m1 z ck
   split at h
   ·rename_i off t a7
    split at h
    ·rename_i i aN
     split at h
     ·rename_i cs ab;exact Se aP aI ai ck a7 aN ab h
     ·cases h
    ·cases h
   ·cases h
  ·cases h
 ·rename_i t x ai
  split at h
  ·rename_i i aN
   split at h
   ·rename_i cs o' ab;exact KG aP aI ai aN ab h
   ·rename_i b cs ab;exact Sf aP aI ai aN ab h
   ·cases h
  ·cases h
 ·rename_i t x ai
  split at h
  ·cases h
  ·rename_i i Ga aN
   split at h
   ·rename_i u ab;cases h;exact Sg aP aI ai aN (fun b e=>by obtain ⟨dE,a2,a3,a4⟩:=i;simp only at e;subst e;exact Ga _ _ _ _ C) ab
   ·cases h
  ·cases h
 ·rename_i f first cap ai
  split at h
  ·rename_i Ai hB U ad;cases h;exact Sh aI ai U ad
  ·cases h
 ·rename_i x ai
  split at h
  ·rename_i b o' ab;cases h;exact CX aI ai ab (.inl ⟨_,_,rfl⟩)
  ·rename_i cs o' ab;cases h;exact CX aI ai ab (.inr (.inl ⟨_,_,rfl⟩))
  ·rename_i b cs ab;cases h;exact CX aI ai ab (.inr (.inr (.inl ⟨_,_,rfl⟩)))
  ·rename_i f Ai hB ab;cases h;exact CX aI ai ab (.inr (.inr (.inr ⟨_,_,_,rfl⟩)))
  ·cases h
 ·rename_i x CZ t ok ai
  split at h
  ·cases h
  ·rename_i i Ga aN
   have C3:∀ b,i.bF ≠ .iface b:=fun b e=>by obtain ⟨dE,a2,a3,a4⟩:=i;simp only at e;subst e;exact Ga _ _ _ _ C
   split at h
   ·rename_i bI u ab
    split at h
    ·rename_i an;cases h;have:=ae0 an;subst this;exact CY aP aI ai aN C3 ab (.inl ⟨u,rfl,rfl⟩)
    ·rename_i an;cases h;have:=ae0 an;subst this;exact CY aP aI ai aN C3 ab (.inl ⟨_,rfl,rfl⟩)
    ·rename_i an
     split at h
     ·rename_i z bG;cases h
      exact CY aP aI ai aN C3 ab (.inr ⟨rfl,.inr ⟨bI,u,(fun e=>by subst e;simp at an),rfl⟩,z,bG,rfl⟩)
     ·cases h
    ·cases h
   ·rename_i ab
    split at h
    ·split at h
     ·rename_i z bG;cases h
      exact CY aP aI ai aN C3 ab (.inr ⟨rfl,.inl C,z,bG,rfl⟩)
     ·cases h
    ·cases h
   ·cases h
  ·cases h
 ·rename_i args argTypes ai
  split at h
  ·rename_i x t U ad
   have b2:args = #[x]:=by apply ap8;simpa using U
   have bU:argTypes = #[t]:=by apply ap8;simpa using ad
   subst b2;subst bU;split at h
   ·rename_i e sz m1 z aN
    split at h
    ·rename_i sz' xs own ab;cases h;exact KH aP aI ai aN ab (.inl ⟨_,_,_,_,rfl,rfl,rfl⟩)
    ·cases h
   ·rename_i sz m1 z aN
    split at h
    ·rename_i l ab;cases h;exact KH aP aI ai aN ab (.inr ⟨_,rfl,rfl,rfl⟩)
    ·cases h
   ·cases h
  ·cases h
 ·rename_i t x ai
  split at h
  ·rename_i u ab
   split at h
   ·rename_i cs aB;cases h;exact Si aI ai ab aB
   ·cases h
  ·cases h
 ·rename_i t parts ai
  split at h
  ·rename_i gK sz m1 z aN
   split at h
   ·rename_i pl aW ps ih bG qa
    split at h
    ·rename_i cs hI;cases h;exact Sj aP aI ai aN ih bG qa hI
    ·cases h
   ·cases h
  ·rename_i Kx ji sz m1 z aN
   split at h
   ·rename_i aH aW ps he bG qa
    split at h
    ·rename_i cs hI;cases h;exact Sm aP aI ai aN he bG qa hI
    ·cases h
   ·cases h
  ·cases h
 ·rename_i t len parts ai
  split at h
  ·rename_i e sz m1 z aN
   split at h
   ·rename_i aH he
    split at h
    ·rename_i uH
     simp only [f8] at uH;split at h
     ·rename_i xs c';cases h
      exact Sn aP aI ai aN he (ae0 uH.1) (an4 uH.2.1) (an4 uH.2.2) c'
     ·cases h
    ·cases h
   ·cases h
  ·cases h
 ·cases h
omit aI aP in
theorem KK {o:Oper} {v:ag} (h:p' Γ o env=some v):gJ o=true:=by
 unfold gJ;cases ai:o.op<;>first|rfl|(unfold p' at h;rw [ai] at h;cases h)
omit aI in
theorem aZ.p' {o:Oper} {v:ag} (h:Go.Proofs.YtnafpeohfbglmaaGreat.p' Γ o env=some v):aZ P N o env s (fun x aj=>x=v∧aj=s) (fun _ _=>False):=
 aZ.m0 (KK h) fun _ _ _ _ _ aI=>KJ aP aI h
omit aI in
theorem fN.step {ops:Array Oper} {Q:b9→Env→ao→Prop} {i:Nat} {l:List Nat} {o:Oper} {d:Nat} {v:ag} (ai:ops[i]? = some o) (av:guardOf ops env o=some true)
  (ax:o.dst=some d) (aU:t8 d N=true) (aw:Go.Proofs.YtnafpeohfbglmaaGreat.p' Γ o env=some v) (h:fN P N ops l Q ((d,v)::env) s):fN P N ops (i::l) Q env s:=
 fN.op ai av ax aU (aZ.p' aP aw) (fun x aj ⟨U,ad⟩=>by subst U;subst ad;exact h) (fun _ _ h=>h.elim)
end
def ao.set (s:ao) (b:Nat) (o:dH):ao:=fun aY=>if aY=b then some o else s aY
def ao.del (s:ao) (b:Nat):ao:=fun aY=>if aY=b then none else s aY
theorem ao.gn (s:ao) (b:Nat) (o:dH):s.set b o b=some o:=by simp [ao.set]
theorem ao.fG (s:ao) {b aY:Nat} (o:dH) (h:aY≠b):s.set b o aY=s aY:=by simp [ao.set,h]
theorem ao.nN (s:ao) (b:Nat):s.del b b=none:=by simp [ao.del]
theorem ao.m3 (s:ao) {b aY:Nat} (h:aY≠b):s.del b aY=s aY:=by simp [ao.del,h]
theorem ao.uK {s:ao} {b aY:Nat} {o:dH} (h:s.set b o aY=none):aY≠b∧s aY=none:=by
 unfold ao.set at h;split at h
 ·cases h
 ·exact ⟨‹_›,h⟩
theorem ao.wk (s:ao) (b:Nat) (o:dH) (h:s b=none):ao.Sub s (s.set b o):=fun aY=>by
 by_cases e:aY=b
 ·subst e;exact .inr h
 ·exact .inl (by rw [ao.fG _ _ e])
theorem ao.pr (s:ao):ao.Sub s s:=fun _ => .inl rfl
theorem ao.Sub.trans {a b c:ao} (h:ao.Sub a b) (k:ao.Sub b c):ao.Sub a c:=fun x=>by
 rcases h x with e|e
 ·rcases k x with e'|e'
  ·exact .inl (e.trans e')
  ·exact .inr (e.trans e')
 ·exact .inr e
theorem ao.Aj (s:ao) (b:Nat) (o:dH) (h:s b=none):(s.set b o).del b=s:=by
 funext aY;by_cases e:aY=b
 ·subst e;simp [ao.del,h]
 ·simp [ao.del,ao.set,e]
theorem ao.set_set (s:ao) (b:Nat) (o o':dH):(s.set b o).set b o'=s.set b o':=by
 funext aY;by_cases e:aY=b<;>simp [ao.set,e]
theorem q0.lt {w:World} {p:bV} {b:Nat} {o:dH} (h:q0 w p b o):b<w.heap.size:=by
 cases o with
 | box t cs=>obtain ⟨vs,U,-⟩:=h;exact (i9.1 U).1
 | row t sz n=>obtain ⟨vs,U,-⟩:=h;exact (i9.1 U).1
 | map es=>obtain ⟨vs,c,U,-⟩:=h;exact (i9.1 U).1
 | lz es it l c=>obtain ⟨_,_,_,U,-⟩:=h;exact (i9.1 U).1
 | tick m=>obtain ⟨_,_,_,U⟩:=h;exact (i9.1 U).1
 | loop r env=>exact (i9.1 h.1).1
theorem r9 {w:World} {p:bV} {s:ao} (cf:dx w p s) (o:Obj) (x:dH) (ab:∀ w':World,w'.heap[w.heap.size]? = some o→(∀ v y,Rel w p v y→Rel w' p v y)→(∀ vs ys,bH w p vs ys→bH w' p vs ys)→q0 w' p w.heap.size x) :
  s w.heap.size=none∧dg w p (w.alloc o) p∧Kept s (s.set w.heap.size x) w p (w.alloc o) p∧dx (w.alloc o) p (s.set w.heap.size x):=by
 have az:s w.heap.size=none:=by
  cases h:s w.heap.size with
  | none=>rfl
  | some o'=>exact absurd (cf.obj _ _ h).lt af
 have hle:dg w p (w.alloc o) p:=dg.of_heap C C C ba (fun _ _ h=>h) cf.lt (fun b an=>mw w o b an);refine ⟨az,hle,⟨fun b an _=>mw w o b an,fun b an ar=>by rw [ao.fG _ _ af];exact ar,fun _ _ _ _ h=>h⟩,?_⟩;have av:=cf.grow hle (fun b an=>mw w o b an) (fun _ _ _ h=>h) (fun b o aF=>by have:=cf.lt b o aF;simp;omega);refine ⟨fun b o' an=>?_,av.lt⟩;by_cases e:b=w.heap.size
 ·subst e
  rw [ao.gn] at an;cases an;exact ab _ (uE w o) (fun _ _ h=>h.mono hle) (fun _ _ h=>h.mono hle)
 ·rw [ao.fG _ _ e] at an
  exact av.obj b o' an
section
variable {P:Program} {Γ:cA} {N:Nat} {env:Env} {s:ao}
theorem aZ.kB {o:Oper} {K X:ag→ao→Prop} (ax:gJ o=true)
  (h:∀ ro B a w p,dI N B ro env s a w p→∃ val w' aj bj x,(execOp a.eval o).run P w = .ok (.value val) w'∧dg w p w' bj∧Kept s aj w p w' bj∧dx w' bj aj∧K x aj∧Rel w' bj val x) :
  aZ P N o env s K X:=by
 refine ⟨ax,fun ro B a w p aI=>?_⟩;obtain ⟨val,w',aj,bj,x,aD,U,ad,al,bf,bE⟩:=h ro B a w p aI;rw [aD];exact ⟨aj,bj,U,ad,al,x,bf,bE⟩
theorem aZ.Gb {o:Oper} {K X:ag→ao→Prop} (ax:gJ o=true)
  (h:∀ ro B a w p,dI N B ro env s a w p→∃ w' aj bj,(execOp a.eval o).run P w = .ok .skip w'∧dg w p w' bj∧Kept s aj w p w' bj∧dx w' bj aj∧K (.cw []) aj) :
  aZ P N o env s K X:=by
 refine ⟨ax,fun ro B a w p aI=>?_⟩;obtain ⟨w',aj,bj,aD,U,ad,al,bf⟩:=h ro B a w p aI;rw [aD];exact ⟨aj,bj,U,ad,al,_,bf,FY⟩
theorem aZ.alloc (aP:bQ P Γ) {o:Oper} {t:TypeId} {i:bO} {z:ag} {cs:List ag} (ai:o.op = .alloc t) (aN:Γ.get? t=some i) (bG:hH i.zero=some z) (aB:cellsOf z=some cs) {X:ag→ao→Prop} :
  aZ P N o env s (fun x aj=>∃ b,s b=none∧x = .ptr b 0∧aj=s.set b (.box t cs)) X:=by
 refine aZ.kB (by simp [gJ,ai]) fun ro B a w p aI=>?_
 obtain ⟨info,d,U,ad,al,bf,bE,hf⟩:=aP.parts aN
 obtain ⟨az,hle,aE,cf⟩:=r9 aI.wf (.cells i.zero.cells t (0,0)) (.box t cs) (fun w' iS aD gW=>
  ⟨i.zero.cells,iS,gW _ _ (q2 (q4 bG) aB),fun o' aF=>absurd (aI.wf.lt _ _ aF) af⟩)
 refine ⟨.pointer (some ⟨w.heap.size,0,none⟩),_,_,p,_,?_,hle,aE,cf,⟨w.heap.size,az,rfl,rfl⟩,.ptr _ _⟩;unfold execOp;rw [ai];refine gV ?_;simp [Instr.alloc,zeroValue,typeInfo,U,hf,newVar,newRow]
theorem jO {w:World} {b:Nat} {vs:Array Value} {t:TypeId} {hn:Nat×Nat} (h:w.heap[b]? = some (.cells vs t hn)) (j:Nat):w.cell? ⟨b,j,none⟩=vs[j]?:=by
 simp [World.cell?,h]
theorem aZ.uL (aP:bQ P Γ) {o:Oper} {t T:TypeId} {x:Operand} {i:bO} {b off:Nat} {cs:List ag} {v:ag} (ai:o.op = .load t x) (aN:Γ.get? t=some i) (ab:aM env x=some (.ptr b off))
  (ar:s b=some (.box T cs)) (h:hV i cs off=some v) {X:ag→ao→Prop}:aZ P N o env s (fun x aj=>x=v∧aj=s) X:=by
 refine aZ.kB (by simp [gJ,ai]) fun ro B a w p aI=>?_
 have aD:=aI.aM ab;generalize aw:a.eval x=dR at aD;cases aD;obtain ⟨vs,U,ad,al⟩:=aI.wf.obj _ _ ar;obtain ⟨val,cS,eW⟩:=Ad aP aN (b:=b) (base:=0) (vs:=vs.toList) (fun j u hu=>by rw [af5,jO U];simpa using hu) ad h;refine ⟨val,w,s,p,v,?_,.refl w p,.refl s w p,aI.wf,⟨rfl,rfl⟩,eW⟩;unfold execOp;rw [ai];simp only [aw];refine gV ?_;rw [af5] at cS;simp only [Instr.loadAt,Instr.sureAddr,ac',ae6,i5,cS]
theorem wm {w:World} {p:bV} (cf:dx w p s) {b:Nat} {T:TypeId} {cs:List ag} (ar:s b=some (.box T cs)) {vs':Array Value} {cs':List ag}
    (cc:∀ vs,w.heap[b]? = some (.cells vs T (0,0))→vs'.size=vs.size) (aD:bH w p vs'.toList cs') (w':World) (iS:w'=w.setRow b vs') :
    dg w p w' p∧Kept s (s.set b (.box T cs')) w p w' p∧dx w' p (s.set b (.box T cs')):=by
  subst iS;obtain ⟨vs,U,ad,al⟩:=cf.obj _ _ ar;have au:b<w.heap.size:=(i9.1 U).1;have dO:=setRow_heap w b vs vs' T (0,0) U;have h5:∀ k,k≠b→(w.setRow b vs').heap[k]? = w.heap[k]? := fun k aE=>setRow_other w b k vs' aE
  have hle:dg w p (w.setRow b vs') p:=by
    refine ⟨rfl,rfl,rfl,by simp,fun _ _ h=>h,fun aY o aF=>yo (h5 aY (fun e=>al o (e ▸ aF))),fun aY x ab=>?_⟩;by_cases e:aY=b
    · subst e
      have Sp:=cc vs U;simp only [World.k1,U,dO] at ab ⊢;rw [Sp];exact ab
    · rw [yn (h5 aY e)];exact ab
  refine ⟨hle,⟨fun aY an az=>h5 aY (fun e=>by rw [e,ar] at az;simp at az),fun aY an az=>by
    rw [ao.fG]
    · exact az
    · intro e;rw [e,ar] at az;simp at az,fun _ _ _ _ h=>h⟩,?_,fun aY o aF=>by simpa using cf.lt aY o aF⟩
  intro aY o' oz;by_cases e:aY=b
  · subst e
    rw [ao.gn] at oz;cases oz;exact ⟨vs',dO,aD.mono hle,al⟩
  · rw [ao.fG _ _ e] at oz
    have ai:=cf.obj aY o' oz;have cY:=h5 aY e;cases o' with
    | box t c=>obtain ⟨us,g1,g2,g3⟩:=ai;exact ⟨us,cY.trans g1,g2.mono hle,g3⟩
    | row t sz n=>obtain ⟨cur,g1,g2,g3,g4⟩:=ai;exact ⟨cur,cY.trans g1,g2,g3,g4⟩
    | map es=>obtain ⟨cQ,c,g1,g2,g3⟩:=ai;exact ⟨cQ,c,cY.trans g1,⟨g2.1.mono hle,g2.2.mono hle⟩,g3⟩
    | lz es it l c=>exact ai.q1 hle cY (h5 it (ai.z8 U ba))
    | tick m=>obtain ⟨dE,a2,a3,g1⟩:=ai;exact ⟨dE,a2,a3,cY.trans g1⟩
    | loop r env=>exact ⟨cY.trans ai.1,fun t v h=>(ai.2 t v h).mono hle⟩
def fe:ag→Bool
 | .hG (.func _ _ _)=>true
 | .hG (.slice _ _ _)=>true
 | .any | .hG _ | .agg _ | .cw _=>false
 | _=>true
theorem Gc {w:World} {p:bV} {v:Value} {x:ag} (aD:Rel w p v x) (h:fe x=true):v.oneCell'=true:=by
 cases aD with
 | hG v=>cases v<;>first|rfl|(simp [fe] at h;done)
 | _=>first|rfl|(simp [fe] at h;done)
theorem q6 {w:World} {p:bV}:∀ {vs:List Value} {xs:List ag},bH w p vs xs→xs.all fe=true→∀ v∈vs,v.oneCell'=true:=by
 intro vs
 induction vs with
 | nil=>intro xs _ _ v aw;cases aw
 | cons u vs a1=>
  intro xs h a6 v aw;cases h with
  | cons _ x _ xs ab aN=>
  simp only [List.all_cons,f8] at a6;rcases af2.1 aw with rfl|aw
  ·exact Gc ab a6.1
  ·exact a1 aN a6.2 v aw
theorem KL (off:Nat):∀ (cs xs:List ag),off+cs.length≤xs.length→eM off cs xs=xs.take off++cs++xs.drop (off+cs.length):=by
 intro cs
 induction cs generalizing off with
 | nil=>intro xs h;simp [eM]
 | cons c cs a1=>
  intro xs h;simp only [eM,g9] at h ⊢;rw [a1 (off+1) _ cV];have U:(xs.set off c).take (off+1)=xs.take off++[c]:=by
   rw [List.take_succ_eq_append_getElem cV];simp [List.take_set_of_le]
  have ad:(xs.set off c).drop (off+1+cs.length)=xs.drop (off+1+cs.length):=by
   rw [List.drop_set_of_lt af]
  rw [U,ad];simp [ao4,ar0 1]
theorem aZ.C4 (aP:bQ P Γ) {o:Oper} {t T:TypeId} {x y:Operand} {i:bO} {b off:Nat} {cs us:List ag} {v:ag} (ai:o.op = .store t x y) (aN:Γ.get? t=some i) (ab:aM env x=some (.ptr b off))
  (ay:aM env y=some v) (aw:cellsOf v=some us) (hu:af0 us.length i.size=true) (Sq:us.all fe=true) (ar:s b=some (.box T cs)) (fr:ao5 (off+us.length) cs.length=true) {X:ag→ao→Prop} :
  aZ P N o env s (fun _ aj=>aj=s.set b (.box T (eM off us cs))) X:=by
 refine aZ.Gb (by simp [gJ,ai]) fun ro B a w p aI=>?_
 have aD:=aI.aM ab;generalize ep:a.eval x=dR at aD;cases aD;have fs:=aI.aM ay;have nM:=q2 fs aw;obtain ⟨info,d,g1,g2,g3,g4,-⟩:=aP.parts aN;obtain ⟨vs,U,ad,al⟩:=aI.wf.obj _ _ ar;have cc:(a.eval y).cells.size=info.size:=by rw [g4,← ae0 hu,← nM.length,ae9]
 have Sr:=an4 fr;have lC:vs.size=cs.length:=by rw [← ad.length,ae9]
 have eT:(a.eval y).cells.toList.length=us.length:=nM.length;have hW:=run_storeCells_at P b off T (a.eval y).cells.toList 0 vs w U (by rw [eT];omega) (q6 nM Sq);simp only [ao'] at hW;have eW:bH w p (vs.toList.take off++(a.eval y).cells.toList++vs.toList.drop (off+(a.eval y).cells.toList.length)) (eM off us cs):=by
  rw [KL _ _ _ Sr,eT];exact ((ad.take off).append nM).append (ad.drop _)
 obtain ⟨cE,dq,fl⟩:=wm aI.wf ar (vs':=(vs.toList.take off++(a.eval y).cells.toList++vs.toList.drop (off+(a.eval y).cells.toList.length)).toArray) (fun wo C5=>by
  rw [U] at C5;cases C5
  simp only [an1,f6,ae8,ai1,eT,ae9];omega) (by simpa using eW) _ C
 refine ⟨_,_,p,?_,cE,dq,fl,rfl⟩;unfold execOp;rw [ai];simp only [ep];simp only [Instr.storeAt,Instr.sureAddr,storeVar,sizeOf,typeInfo,ac',ae6,i5,run_program,g1,cc,ne_eq,not_true_eq_false,ah'];rw [hW];rfl
theorem dI.freeze {B:fV} {ro:Option Nat} {a:Act} {w:World} {p:bV} (h:dI N B ro env s a w p) {t b:Nat} {T:TypeId} {cs:List ag} (aN:env.get? t=some (.ptr b 0)) (ar:s b=some (.box T cs)) :
  ∃ bj,dI N B ro ((t,.bw cs 0)::env) (s.del b) a w bj∧dg w p w bj∧Kept s (s.del b) w p w bj:=by
 obtain ⟨vs,U,ad,al⟩:=h.wf.obj _ _ ar;have au:b<w.heap.size:=(i9.1 U).1;have hle:dg w p w (p.ei b True):=⟨rfl,rfl,rfl,g8 _,fun _ _ h => .inl h,fun _ _ _=>rfl,fun _ _ h=>h⟩
 have aE:Kept s (s.del b) w p w (p.ei b True):=⟨fun _ _ _=>rfl,fun aY an az=>by
  by_cases e:aY=b
  ·subst e;exact ao.nN _ _
  ·rw [ao.m3 _ e];exact az,fun aY o an az aF=>by
   rcases aF with aF|⟨rfl,_⟩
   ·exact aF
   ·rw [ar] at az;cases az⟩
 have cf:dx w (p.ei b True) (s.del b):=by
  refine ⟨fun aY o an=>?_,fun aY o aF=>by rcases aF with aF|⟨rfl,_⟩;exact h.wf.lt _ _ aF;exact au⟩;by_cases e:aY=b
  ·subst e;rw [ao.nN] at an;cases an
  ·rw [ao.m3 _ e] at an
   have ai:=h.wf.obj aY o an;have fg:∀ o,p.ei b True aY o↔p aY o:=fun o=>⟨fun aF=>by rcases aF with aF|⟨e',_⟩;exact aF;exact absurd e' e,.inl⟩
   cases o with
   | box t c=>obtain ⟨us,g1,g2,g3⟩:=ai;exact ⟨us,g1,g2.mono hle,fun o aF=>g3 o ((fg o).1 aF)⟩
   | row t sz n=>obtain ⟨cur,g1,g2,g3,g4⟩:=ai;exact ⟨cur,g1,g2,g3,fun o=>(fg o).trans (g4 o)⟩
   | map es=>obtain ⟨cQ,c,g1,g2,g3⟩:=ai;exact ⟨cQ,c,g1,⟨g2.1.mono hle,g2.2.mono hle⟩,g3⟩
   | lz es it l c=>exact ai.q1 hle C C
   | tick m=>exact ai
   | loop r env=>exact ⟨ai.1,fun t v h=>(ai.2 t v h).mono hle⟩
 have aI:=h.step hle aE cf;refine ⟨_,⟨aI.size,fun bI v aw=>?_,aI.wf,aI.defs,aI.round,aI.base⟩,hle,aE⟩;simp only [Env.get?] at aw;split at aw
 ·rename_i he
  have:=ae0 he;subst this;cases aw;have aD:=h.env t _ aN;generalize a.tmps.getD t undef=dR at aD;cases aD;refine .bw b 0 0 0 vs.toList cs C ?_ (ad.mono hle);intro i v aR;refine ⟨.inr ⟨rfl,trivial⟩,?_⟩;rw [af5,jO U];simpa using aR
 ·exact aI.env bI v aw
theorem fN.freeze {ops:Array Oper} {Q:b9→Env→ao→Prop} {l:List Nat} (t b:Nat) {T:TypeId} {cs:List ag} (aN:env.get? t=some (.ptr b 0)) (ar:s b=some (.box T cs))
  (h:fN P N ops l Q ((t,.bw cs 0)::env) (s.del b)):fN P N ops l Q env s:=by
 intro ro B a w p aI;obtain ⟨bj,hW,hle,aE⟩:=aI.freeze aN ar;exact fN.after hle aE h hW
theorem ae.freeze {Q:b9→Env→ao→Prop} {c:Code} (t b:Nat) {T:TypeId} {cs:List ag} (aN:env.get? t=some (.ptr b 0)) (ar:s b=some (.box T cs))
  (h:ae P N c Q ((t,.bw cs 0)::env) (s.del b)):ae P N c Q env s:=by
 intro hn B a w p e4 aI;obtain ⟨bj,hW,hle,aE⟩:=aI.freeze aN ar;exact mq (h hn B a w bj e4 hW) fun _ _ _ q=>q.after hle aE
end
def kj:ag→ag→Option Bool
 | .str a,.str b=>some (a==b)
 | .int k a,.int k' b=>if k=k' then some (a==b) else none
 | .bool a,.bool b=>some (a==b)
 | _,_=>none
def kk:tf→ag→Bool
 | .str,.str _=>true
 | .int _,.int _ _=>true
 | .bool,.bool _=>true
 | _,_=>false
def jj:List (ag×ag)→ag→Option (Option ag)
  | [],_=>some none
  | (k',v)::r,k=>match kj k k' with
    | some true=>some (some v)
    | some false=>jj r k
    | none=>none
def lZ:List (ag×ag)→ag→ag→Option (List (ag×ag))
  | [],k,v=>some [(k,v)]
  | (k',ff)::r,k,v=>match kj k k' with
    | some true=>some ((k,v)::r)
    | some false=>match lZ r k v with
      | some r'=>some ((k',ff)::r')
      | none=>none
    | none=>none
theorem KM (a b:ByteArray):(a==b)=(a.data.toList==b.data.toList):=by
 cases a with|mk x=>cases b with|mk y=>
 show (ByteArray.beq ⟨x⟩ ⟨y⟩)=_;unfold ByteArray.beq;simp
theorem C6 {w:World} {p:bV} {d:TypeDesc} {hX Ak:Value} {k k':ag} {b:Bool} (U:Rel w p hX k) (ad:Rel w p Ak k') (a7:kk (eB d) k=true) (h:kj k k'=some b) :
  Instr.sameNow d hX Ak=some b:=by
 unfold kj at h;split at h
 ·cases U with|str a _ e=>cases ad with|str c7 _ e'=>
  cases d<;>simp [eB,kk] at a7
  cases h;simp [Instr.sameNow,KM,e,e']
 ·cases U;cases ad
  cases d<;>simp [eB,kk] at a7
  split at h
  ·cases h;rename_i aE;subst aE;simp [Instr.sameNow]
  ·cases h
 ·cases U;cases ad
  cases d<;>simp [eB,kk] at a7
  cases h;simp [Instr.sameNow]
 ·cases h
theorem Ss {w:World} {p:bV} {hX Ak:Value} {k k':ag} (U:Rel w p hX k) (ad:Rel w p Ak k') (h:kj k k'=some true):Instr.sameBits 10000 Ak hX=true:=by
 unfold kj at h;split at h
 ·cases U with|str a _ e=>cases ad with|str c7 _ e'=>
  have h:=beq_iff_eq.1 (ao1.inj h);show (c7==a)=true;rw [KM,e,e',h];simp
 ·rename_i k a k' b
  cases U;cases ad;split at h
  ·rename_i aE
   subst aE;have h:=beq_iff_eq.1 (ao1.inj h);show (k==k&&b==a)=true;rw [h];simp
  ·cases h
 ·rename_i a b
  cases U;cases ad;have h:=beq_iff_eq.1 (ao1.inj h);show (b==a)=true;rw [h];simp
 ·cases h
theorem St {w:World} {p:bV} {d:TypeDesc} {hX:Value} {k:ag} (aE:Rel w p hX k) (a7:kk (eB d) k=true):∀ (cQ:List MapEntry) (es:List (ag×ag)) (i:Nat) (r:Option ag),
  lW w p cQ es→jj es k=some r →
  match r with
  | none=>Instr.findNow d hX cQ i=some none
  | some v=>∃ j val,Instr.findNow d hX cQ i=some (some (j,val))∧Rel w p val v:=by
 intro cQ
 induction cQ with
 | nil=>
  intro es i r aD h;cases es with
  | nil=>cases h;rfl
  | cons e es=>exact absurd aD.1.length ba
 | cons m cQ a1=>
  intro es i r aD h;cases es with
  | nil=>exact absurd aD.1.length ba
  | cons e es=>
   obtain ⟨k',ff⟩:=e;obtain ⟨yw,ti⟩:=aD;cases yw with|cons _ _ _ _ eH tj=>cases ti with|cons _ _ _ _ m4 q7=>
   simp only [jj] at h;split at h
   ·rename_i he
    cases h;exact ⟨i,m.val,by simp only [Instr.findNow,C6 aE eH a7 he],m4⟩
   ·rename_i he
    have:=a1 es (i+1) r ⟨tj,q7⟩ h;have ar:=C6 aE eH a7 he;cases r with
    | none=>simp only [Instr.findNow,ar];exact this
    | some v=>obtain ⟨j,val,U,ad⟩:=this;exact ⟨j,val,by simp only [Instr.findNow,ar];exact U,ad⟩
   ·cases h
theorem Su {w:World} {p:bV} {d:TypeDesc} {hX vv:Value} {k v:ag} (aE:Rel w p hX k) (aw:Rel w p vv v) (a7:kk (eB d) k=true):∀ (cQ:List MapEntry) (es dF:List (ag×ag)) (i:Nat),
  lW w p cQ es→lZ es k v=some dF →
  (Instr.findNow d hX cQ i=some none∧∀ n,lW w p (cQ++[{ key:=hX,val:=vv,born:=n }]) dF) ∨
  (∃ j val e,Instr.findNow d hX cQ i=some (some (i+j,val))∧cQ[j]? = some e∧Instr.sameBits 10000 e.key hX=true∧lW w p (cQ.modify j fun e=>{ e with key:=hX,val:=vv }) dF):=by
 intro cQ
 induction cQ with
 | nil=>
  intro es dF i aD h;cases es with
  | nil=>cases h;exact .inl ⟨rfl,fun n=>⟨.cons _ _ _ _ aE .nil,.cons _ _ _ _ aw .nil⟩⟩
  | cons e es=>exact absurd aD.1.length ba
 | cons m cQ a1=>
  intro es dF i aD h;cases es with
  | nil=>exact absurd aD.1.length ba
  | cons e es=>
   obtain ⟨k',ff⟩:=e;obtain ⟨yw,ti⟩:=aD;cases yw with|cons _ _ _ _ eH tj=>cases ti with|cons _ _ _ _ m4 q7=>
   simp only [lZ] at h;split at h
   ·rename_i he
    cases h;refine .inr ⟨0,m.val,m,by simp only [Instr.findNow,C6 aE eH a7 he,ao'],rfl,Ss aE eH he,?_⟩;exact ⟨.cons _ _ _ _ aE tj,.cons _ _ _ _ aw q7⟩
   ·rename_i he
    split at h
    ·rename_i r' jx
     cases h;have ar:=C6 aE eH a7 he;rcases a1 es r' (i+1) ⟨tj,q7⟩ jx with ⟨U,ad⟩|⟨j,val,e',U,ad,al,bf⟩
     ·exact .inl ⟨by simp only [Instr.findNow,ar];exact U,fun n=>⟨.cons _ _ _ _ eH (ad n).1,.cons _ _ _ _ m4 (ad n).2⟩⟩
     ·refine .inr ⟨j+1,val,e',by simp only [Instr.findNow,ar];rw [U];congr 3;omega,by simpa using ad,al,?_⟩
      simp only [List.modify_succ_cons];exact ⟨.cons _ _ _ _ eH bf.1,.cons _ _ _ _ m4 bf.2⟩
    ·cases h
   ·cases h
section
variable {P:Program} {Γ:cA} {N:Nat} {env:Env} {s:ao}
theorem run_checkKey {d:TypeDesc} {t:TypeId} {hX:Value} {k:ag} {w:World} {p:bV} (hu:P.underlying t=some d) (aE:Rel w p hX k) (a7:kk (eB d) k=true) (e:Bool) :
  (Instr.checkKey e 10000 t hX).run P w = .ok () w:=by
 have:∀ n,(Instr.checkKey e (n+1) t hX).run P w = .ok () w:=by
  intro n;unfold Instr.checkKey;simp only [ac',run_underlying hu,i5];cases aE<;>simp [kk] at a7<;>cases d<;>simp [eB] at a7<;>rfl
 exact this 9999
theorem run_findKey {d:TypeDesc} {t:TypeId} {hX:Value} {es:List MapEntry} {r:Option (Nat×Value)} {w:World} (hu:P.underlying t=some d) (h:Instr.findNow d hX es 0=some r) :
  (Instr.findKey t hX es).run P w = .ok r w:=by
 unfold Instr.findKey;simp only [ac',run_underlying hu,i5,h,ae6]
def C7:Obj→Bool
 | .cells .. => false
 | _=>true
theorem yx {w:World} {r:Nat} {o:Obj} (h:w.heap[r]? = some o) (aB:C7 o=true):(getObj r).run P w = .ok o w:=by
 cases o<;>first|(simp [C7] at aB;done)|simp [getObj,ax3,h]
def l0 (ok:Bool) (zero:ag):Option ag→ag
 | some v=>if ok then .cw [v,.bool true] else v
 | none=>if ok then .cw [zero,.bool false] else zero
theorem aZ.lookup (aP:bQ P Γ) {o:Oper} {t dW e5:TypeId} {x y:Operand} {ok:Bool} {it gL aH:bO} {m:ag} {es:List (ag×ag)} {k z:ag} {r:Option ag} (ai:o.op = .lookup t x y ok)
  (aN:Γ.get? t=some it) (bt:it.bF = .map dW e5) (jy:Γ.get? dW=some gL) (bJ:Γ.get? e5=some aH) (ab:aM env x=some m) (ay:aM env y=some k)
  (hm:(∃ b,m = .map b∧s b=some (.map es))∨(m = .td∧es=[])) (a7:kk gL.bF k=true) (av:jj es k=some r) (bG:hH aH.zero=some z) {X:ag→ao→Prop} :
  aZ P N o env s (fun x aj=>x=l0 ok z r∧aj=s) X:=by
 refine aZ.kB (by simp [gJ,ai]) fun ro B a w p aI=>?_
 obtain ⟨info,d,U,ad,al,-⟩:=aP.parts aN;obtain ⟨Sv,yy,mx,iF,tk,-⟩:=aP.parts jy;obtain ⟨j1,kC,Gd,Al,Sw,-,-,Ge⟩:=aP.parts bJ;have ax:d = .map dW e5:=by rw [bt] at al;cases d<;>simp [eB] at al;rw [al.1,al.2]
 subst ax;have aD:=aI.aM ab;have kD:=aI.aM ay;generalize ep:a.eval x=dR at aD;generalize e9:a.eval y=fW at kD;rw [← tk] at a7;have Gf:(zeroValue e5).run P w = .ok aH.zero w:=by simp [zeroValue,typeInfo,Gd,Ge]
 have tail:∀ cQ:Array MapEntry,lW w p cQ.toList es→∃ val,(do
   Instr.checkKey cQ.isEmpty 10000 dW fW
   let (v,Sx) ← match ← Instr.findKey dW fW cQ.toList with
    | some (_,v)=>pure (v,true)
    | none=>do pure (← zeroValue e5,false)
   pure (if ok then .tuple #[v,.bool Sx] else v):Sem Value).run P w = .ok val w∧Rel w p val (l0 ok z r):=by
  intro cQ Gg;have kl:=St kD a7 cQ.toList es 0 r Gg av;simp only [ac',run_checkKey iF kD a7,i5];cases r with
  | none=>
   simp only at kl;simp only [run_findKey iF kl,i5,ac',Gf,ae6,l0];cases ok
   ·exact ⟨_,rfl,q4 bG⟩
   ·exact ⟨_,rfl,.cw _ _ (.cons _ _ _ _ (q4 bG) (.cons _ _ _ _ (.bool _) .nil))⟩
  | some v=>
   obtain ⟨j,val,g1,g2⟩:=kl;simp only [run_findKey iF g1,i5,ae6,l0];cases ok
   ·exact ⟨_,rfl,g2⟩
   ·exact ⟨_,rfl,.cw _ _ (.cons _ _ _ _ g2 (.cons _ _ _ _ (.bool _) .nil))⟩
 have Gh:∃ val,(Instr.lookup t dR fW ok).run P w = .ok val w∧Rel w p val (l0 ok z r):=by
  unfold Instr.lookup;rcases hm with ⟨b,rfl,ar⟩|⟨rfl,rfl⟩
  ·cases aD
   obtain ⟨cQ,clock,g1,g2,-⟩:=aI.wf.obj _ _ ar;obtain ⟨val,cS,eW⟩:=tail cQ g2;refine ⟨val,?_,eW⟩;simp only [ac',run_underlying ad,i5,yx g1 C,ae6] at cS ⊢;exact cS
  ·cases aD
   obtain ⟨val,cS,eW⟩:=tail #[] ⟨.nil,.nil⟩;refine ⟨val,?_,eW⟩;simp only [ac',run_underlying ad,i5,ae6] at cS ⊢;exact cS
 obtain ⟨val,cS,eW⟩:=Gh;refine ⟨val,w,s,p,_,?_,.refl w p,.refl s w p,aI.wf,⟨rfl,rfl⟩,eW⟩;unfold execOp;rw [ai];simp only [ep,e9];exact gV cS
theorem Gi {w:World} {p:bV} (cf:dx w p s) {b:Nat} {es:List (ag×ag)} (ar:s b=some (.map es)) {mes':Array MapEntry} {clock':Nat} {dF:List (ag×ag)}
    (aD:lW w p mes'.toList dF) (an:∀ e∈mes'.toList,e.born<clock') (e7:(mes'.toList.map (·.born)).Nodup)
    (w':World) (iS:w'={ w with heap:=w.heap.setIfInBounds b (.map mes' clock') }) :
    dg w p w' p∧Kept s (s.set b (.map dF)) w p w' p∧dx w' p (s.set b (.map dF)):=by
  subst iS;obtain ⟨cQ,clock,U,ad,al,bf⟩:=cf.obj _ _ ar;have au:b<w.heap.size:=(i9.1 U).1;have dO:(w.heap.setIfInBounds b (.map mes' clock'))[b]? = some (.map mes' clock'):=by simp [ag5,au]
  have h5:∀ k,k≠b→(w.heap.setIfInBounds b (.map mes' clock'))[k]? = w.heap[k]? := fun k aE=>by
    rw [ag5,f0 (fun e=>aE e.symm)]
  have hle:dg w p { w with heap:=w.heap.setIfInBounds b (.map mes' clock') } p:=by
    refine ⟨rfl,rfl,rfl,by simp,fun _ _ h=>h,fun aY o aF=>?_,fun aY x ab=>?_⟩
    · by_cases e:aY=b
      · subst e;simp only [World.cell?,U,dO]
      · exact yo (h5 aY e)
    · by_cases e:aY=b
      · subst e;simp [World.k1,U] at ab
      · rw [yn (h5 aY e)];exact ab
  refine ⟨hle,⟨fun aY an az=>h5 aY (fun e=>by rw [e,ar] at az;simp at az),fun aY an az=>by
    rw [ao.fG]
    · exact az
    · intro e;rw [e,ar] at az;simp at az,fun _ _ _ _ h=>h⟩,?_,fun aY o aF=>by simpa using cf.lt aY o aF⟩
  intro aY o' oz;by_cases e:aY=b
  · subst e
    rw [ao.gn] at oz;cases oz;exact ⟨mes',clock',dO,⟨aD.1.mono hle,aD.2.mono hle⟩,an,e7⟩
  · rw [ao.fG _ _ e] at oz
    have ai:=cf.obj aY o' oz;have cY:=h5 aY e;cases o' with
    | box t c=>obtain ⟨us,g1,g2,g3⟩:=ai;exact ⟨us,cY.trans g1,g2.mono hle,g3⟩
    | row t sz n=>obtain ⟨cur,g1,g2,g3,g4⟩:=ai;exact ⟨cur,cY.trans g1,g2,g3,g4⟩
    | map es=>obtain ⟨cQ,c,g1,g2,g3⟩:=ai;exact ⟨cQ,c,cY.trans g1,⟨g2.1.mono hle,g2.2.mono hle⟩,g3⟩
    | lz es it l c=>exact ai.q1 hle cY (h5 it (ai.z8 U ba))
    | tick m=>obtain ⟨dE,a2,a3,g1⟩:=ai;exact ⟨dE,a2,a3,cY.trans g1⟩
    | loop r env=>exact ⟨cY.trans ai.1,fun t v h=>(ai.2 t v h).mono hle⟩
theorem Sy {t dW e5:TypeId} {yy:TypeDesc} {b:Nat} {cQ:Array MapEntry} {clock:Nat} {hX vv:Value} {k:ag} {w:World} {p:bV}
  (ad:P.underlying t=some (.map dW e5)) (iF:P.underlying dW=some yy) (kD:Rel w p hX k) (a7:kk (eB yy) k=true) (g1:w.heap[b]? = some (.map cQ clock)) :
  (∀ (h:Instr.findNow yy hX cQ.toList 0=some none),(Instr.mapUpdate t (.map (some b)) hX vv).run P w = .ok () { w with heap:=w.heap.setIfInBounds b (.map (cQ.push { key:=hX,val:=vv,born:=clock }) (clock+1)) }) ∧
  (∀ j val e,Instr.findNow yy hX cQ.toList 0=some (some (j,val))→cQ[j]? = some e→Instr.sameBits 10000 e.key hX=true →
   (Instr.mapUpdate t (.map (some b)) hX vv).run P w = .ok () { w with heap:=w.heap.setIfInBounds b (.map (cQ.modify j fun e=>{ e with key:=hX,val:=vv }) clock) }):=by
 constructor
 ·intro h
  unfold Instr.mapUpdate;simp only [ac',run_underlying ad,i5,yx g1 C,run_checkKey iF kD a7,run_findKey iF h];simp [setObj,ax3,g1]
 ·intro j val e h he an
  unfold Instr.mapUpdate;simp only [ac',run_underlying ad,i5,yx g1 C,run_checkKey iF kD a7,run_findKey iF h];simp [Instr.keyThatStays,he,an,setObj,ax3,g1]
theorem aZ.mapUpdate (aP:bQ P Γ) {o:Oper} {t dW e5:TypeId} {x y z:Operand} {it gL:bO} {b:Nat} {es dF:List (ag×ag)} {k v:ag} (ai:o.op = .mapUpdate t x y z∨o.op = .insert t x y z)
    (aN:Γ.get? t=some it) (bt:it.bF = .map dW e5) (jy:Γ.get? dW=some gL) (ab:aM env x=some (.map b)) (ay:aM env y=some k) (bG:aM env z=some v)
    (ar:s b=some (.map es)) (a7:kk gL.bF k=true) (aF:lZ es k v=some dF) {X:ag→ao→Prop} :
    aZ P N o env s (fun _ aj=>aj=s.set b (.map dF)) X:=by
  refine aZ.Gb (by rcases ai with ai|ai<;>simp [gJ,ai]) fun ro B a w p aI=>?_
  obtain ⟨info,d,U,ad,al,-⟩:=aP.parts aN;obtain ⟨Sv,yy,mx,iF,tk,-⟩:=aP.parts jy;have ax:d = .map dW e5:=by rw [bt] at al;cases d<;>simp [eB] at al;rw [al.1,al.2]
  subst ax;rw [← tk] at a7;have aD:=aI.aM ab;have kD:=aI.aM ay;have Gj:=aI.aM bG;obtain ⟨cQ,clock,g1,g2,g3,g4⟩:=aI.wf.obj _ _ ar;generalize ep:a.eval x=dR at aD;cases aD;obtain ⟨e8,fB⟩:=Sy (vv:=a.eval z) ad iF kD a7 g1;have cS:∀ w',(Instr.mapUpdate t (.map (some b)) (a.eval y) (a.eval z)).run P w = .ok () w'→(execOp a.eval o).run P w = .ok .skip w':=by
    intro w' hw;unfold execOp;rcases ai with ai|ai<;>rw [ai]<;>simp only [ep]<;>simp only [ac',hw,i5,ae6]
  rcases Su kD Gj a7 cQ.toList es dF 0 g2 aF with ⟨ea,dj⟩|⟨j,val,e,ea,dj,dQ,m5⟩
  · obtain ⟨cE,dq,fl⟩:=Gi aI.wf ar (mes':=cQ.push { key:=a.eval y,val:=a.eval z,born:=clock }) (clock':=clock+1) (by simpa using dj clock)
      (by intro e he;simp only [as7,ae',H1] at he;rcases he with he|rfl;have:=g3 e he;omega;simp)
      (by
        simp only [as7,List.map_append,ae3,ah1]
        rw [List.nodup_append]
        refine ⟨g4,by simp,?_⟩
        intro x ab y ay e
        simp only [H1] at ay
        obtain ⟨m,hm,rfl⟩:=af'.1 ab
        have:=g3 m hm
        omega) _ C
    exact ⟨_,_,p,cS _ (e8 ea),cE,dq,fl,rfl⟩
  · rw [af5] at ea
    have wq:((cQ.modify j fun e=>{ e with key:=a.eval y,val:=a.eval z }).toList.map (·.born))=cQ.toList.map (·.born):=by
      rw [Array.toList_modify];apply List.ext_getElem?;intro n;simp only [ae4,List.getElem?_modify];split
      · cases cQ.toList[n]? <;> rfl
      · cases cQ.toList[n]? <;> rfl
    obtain ⟨cE,dq,fl⟩:=Gi aI.wf ar (mes':=cQ.modify j fun e=>{ e with key:=a.eval y,val:=a.eval z }) (clock':=clock) (by simpa using m5)
      (by
        intro e he
        have:e.born∈((cQ.modify j fun e=>{ e with key:=a.eval y,val:=a.eval z }).toList.map (·.born)):=af'.2 ⟨e,he,rfl⟩
        rw [wq] at this
        obtain ⟨e',vY,an⟩:=af'.1 this
        rw [← an];exact g3 e' vY)
      (by rw [wq];exact g4) _ C
    exact ⟨_,_,p,cS _ (fB j val e ea (by simpa using dj) dQ),cE,dq,fl,rfl⟩
theorem aZ.makeMap {o:Oper} {t:TypeId} (ai:o.op = .makeMap t none) {X:ag→ao→Prop}:aZ P N o env s (fun x aj=>∃ b,s b=none∧x = .map b∧aj=s.set b (.map [])) X:=by
 refine aZ.kB (by simp [gJ,ai]) fun ro B a w p aI=>?_
 obtain ⟨az,hle,aE,cf⟩:=r9 aI.wf (.map #[] 0) (.map []) (fun w' iS aD gW=>⟨#[],0,iS,⟨.nil,.nil⟩,by simp,by simp⟩);refine ⟨.map (some w.heap.size),_,_,p,_,?_,hle,aE,cf,⟨w.heap.size,az,rfl,rfl⟩,.map _⟩;unfold execOp;rw [ai];exact gV C
end
theorem wu {vs:List Value} {sz:Nat} (h:∀ v∈vs,v.cells.size=sz):(flat vs).length=vs.length*sz:=by
 induction vs with
 | nil=>simp [flat]
 | cons v vs a1=>
  have e3:=a1 (fun u hu=>h u (i0 _ hu));simp only [flat,ak0,f6,ae9,g9] at e3 ⊢;rw [h v (i6 ..)];have Sz:(aD9 (fun v=>v.cells.toList) vs).length=vs.length*sz:=e3;rw [Sz,ak7];omega
theorem Gk (vs us:List Value):flat (vs++us)=flat vs++flat us:=by simp [flat,List.flatMap_append]
theorem SA {w:World} {p:bV} {s:ao} (cf:dx w p s) {vs:List Value} {xs:List ag} {sz cap:Nat} {e:TypeId} {cur:Array Value} (aD:bH w p vs xs)
    (ar:∀ v∈vs,v.cells.size=sz) (pt:cur.size=cap*sz) (wv:cur.toList.take (xs.length*sz)=flat vs) (kE:xs.length≤cap) (hm:xs.length≤9223372036854775807) :
    ∃ bj,s w.heap.size=none∧dg w p (w.drew.alloc (.cells cur e)) bj∧Kept s (s.set w.heap.size (.row e sz xs.length)) w p (w.drew.alloc (.cells cur e)) bj ∧
      dx (w.drew.alloc (.cells cur e)) bj (s.set w.heap.size (.row e sz xs.length))∧Rel (w.drew.alloc (.cells cur e)) bj (.slice (some ⟨w.heap.size,0,none⟩) xs.length cap) (.aA sz xs (.own w.heap.size)):=by
  have az:s w.heap.size=none:=by
    cases h:s w.heap.size with
    | none=>rfl
    | some o'=>exact absurd (cf.obj _ _ h).lt af
  let bj:bV:=fun b o=>p b o∨(b=w.heap.size∧o<xs.length*sz)
  have pv:(w.drew.alloc (.cells cur e)).heap[w.heap.size]? = some (.cells cur e):=uE w.drew _;have hold:∀ b,b<w.heap.size→(w.drew.alloc (.cells cur e)).heap[b]? = w.heap[b]? := fun b an=>mw w.drew _ b an
  have hle:dg w p (w.drew.alloc (.cells cur e)) bj:=dg.of_heap C C C ba (fun _ _ h => .inl h) cf.lt hold;have hlen:=wu ar;have hmul:xs.length*sz≤cap*sz:=am9 _ kE;refine ⟨bj,az,hle,⟨fun b an _=>hold b an,fun b an ar=>by rw [ao.fG _ _ af];exact ar,fun b o an _ aF=>by rcases aF with aF|⟨rfl,_⟩;exact aF;omega⟩,?_,?_⟩
  · have av:dx (w.drew.alloc (.cells cur e)) bj s:=cf.grow hle hold (fun b o an aF=>by rcases aF with aF|⟨rfl,_⟩;exact aF;omega) (fun b o aF=>by
      rcases aF with aF|⟨rfl,_⟩
      · have:=cf.lt b o aF;simp;omega
      · simp)
    refine ⟨fun b o an=>?_,av.lt⟩;by_cases e':b=w.heap.size
    · subst e'
      rw [ao.gn] at an;cases an;refine ⟨cur,pv,by omega,⟨cap,pt⟩,fun o=>⟨fun aF=>?_,fun ai => .inr ⟨rfl,ai⟩⟩⟩;rcases aF with aF|⟨_,ai⟩
      · exact absurd (cf.lt _ _ aF) af
      · exact ai
    · rw [ao.fG _ _ e'] at an;exact av.obj b o an
  · refine .aA _ 0 _ _ _ vs _ _ ba rfl ?_ (aD.mono hle) ar hm kE (fun h=>by cases h) (fun b an=>?_)
    · intro i v aw
      have aR:i<xs.length*sz:=by
        have:=(ae2.1 aw).1;rw [hlen,aD.length] at this;exact this
      refine ⟨.inr ⟨rfl,by omega⟩,?_⟩;rw [af5,jO pv];rw [← wv,ai4,g6 aR] at aw;simpa using aw
    · cases an
      exact ⟨rfl,rfl,e,by simp only [World.k1,pv,pt]⟩
theorem SB {w:World} {p:bV} {s:ao} (cf:dx w p s) {b:Nat} {e:TypeId} {sz n cap:Nat} (wx:s b=some (.row e sz n)) {cur:Array Value} (jN:w.heap[b]? = some (.cells cur e (0,0)))
  (pt:cur.size=cap*sz) {vs us:List Value} {xs ys:List ag} (az:n=xs.length) (aD:bH w p vs xs) (hu:bH w p us ys) (ar:∀ v∈vs,v.cells.size=sz) (jk:∀ v∈us,v.cells.size=sz)
  (wv:cur.toList.take (n*sz)=flat vs) (kE:n+us.length≤cap) (hm:n+us.length≤9223372036854775807) :
  ∃ bj,dg w p (w.setRow b (cur.toList.take (n*sz)++flat us++cur.toList.drop (n*sz+(flat us).length)).toArray) bj ∧
   Kept s ((s.del b).set b (.row e sz (n+us.length))) w p (w.setRow b (cur.toList.take (n*sz)++flat us++cur.toList.drop (n*sz+(flat us).length)).toArray) bj ∧
   dx (w.setRow b (cur.toList.take (n*sz)++flat us++cur.toList.drop (n*sz+(flat us).length)).toArray) bj ((s.del b).set b (.row e sz (n+us.length))) ∧
   Rel (w.setRow b (cur.toList.take (n*sz)++flat us++cur.toList.drop (n*sz+(flat us).length)).toArray) bj (.slice (some ⟨b,0,none⟩) (n+us.length) cap) (.aA sz (xs++ys) (.own b)):=by
 obtain ⟨acZ,U,ad,al,bf⟩:=cf.obj _ _ wx;rw [jN] at U;cases U;have kF:=wu jk;have fC:=wu ar;have hmul:n*sz+us.length*sz≤cap*sz:=by rw [← ak7];exact am9 _ kE
 generalize Am:(cur.toList.take (n*sz)++flat us++cur.toList.drop (n*sz+(flat us).length)).toArray=new;have nO:new.toList=cur.toList.take (n*sz)++flat us++cur.toList.drop (n*sz+(flat us).length):=by rw [← Am]
 have cy:cur.toList.length=cap*sz:=by rw [ae9,pt]
 have C8:new.size=cur.size:=by rw [← ae9,nO];simp only [f6,ae8,ai1,kF,cy,pt];omega
 have au:b<w.heap.size:=(i9.1 jN).1;have dO:=setRow_heap w b cur new e (0,0) jN;have h5:∀ k,k≠b→(w.setRow b new).heap[k]? = w.heap[k]? := fun k aE=>setRow_other w b k new aE
 have m6:∀ o,o<n*sz→new[o]? = cur[o]? := fun o ai=>by
  have:new.toList[o]? = cur.toList[o]?:=by
   rw [nO,ah0,ag0 yi,ai4,g6 ai]
  simpa using this
 let bj:bV:=fun aY o=>p aY o∨(aY=b∧o<(n+us.length)*sz)
 have hle:dg w p (w.setRow b new) bj:=by
  refine ⟨rfl,rfl,rfl,by simp,fun _ _ h => .inl h,fun aY o aF=>?_,fun aY x ab=>?_⟩
  ·by_cases e':aY=b
   ·subst e'
    rw [jO dO,jO jN];exact m6 o ((bf o).1 aF)
   ·exact yo (h5 aY e')
  ·by_cases e':aY=b
   ·subst e'
    simp only [World.k1,jN,dO] at ab ⊢;rw [C8];exact ab
   ·rw [yn (h5 aY e')];exact ab
 refine ⟨bj,hle,⟨fun aY an az=>h5 aY (fun e'=>by rw [e',wx] at az;simp at az),fun aY an az=>?_,fun aY o an az aF=>?_⟩,⟨fun aY o' oz=>?_,fun aY o aF=>?_⟩,?_⟩
 ·have cJ:aY≠b:=fun e'=>by rw [e',wx] at az;simp at az
  rw [ao.fG _ _ cJ,ao.m3 _ cJ];exact az
 ·rcases aF with aF|⟨e',_⟩
  ·exact aF
  ·rw [e',wx] at az;simp at az
 ·by_cases e':aY=b
  ·subst e'
   rw [ao.gn] at oz;cases oz;refine ⟨new,dO,by rw [C8,pt,ak7];omega,⟨cap,by rw [C8,pt]⟩,fun o=>⟨fun aF=>?_,fun ai => .inr ⟨rfl,ai⟩⟩⟩;rcases aF with aF|⟨_,ai⟩
   ·have:=(bf o).1 aF;rw [ak7];omega
   ·exact ai
  ·rw [ao.fG _ _ e',ao.m3 _ e'] at oz
   have ai:=cf.obj aY o' oz;have cY:=h5 aY e';have KN:∀ o,bj aY o↔p aY o:=fun o=>⟨fun aF=>by rcases aF with aF|⟨SC,_⟩;exact aF;exact absurd SC e',.inl⟩
   cases o' with
   | box t c=>obtain ⟨us,g1,g2,g3⟩:=ai;exact ⟨us,cY.trans g1,g2.mono hle,fun o aF=>g3 o ((KN o).1 aF)⟩
   | row t sz n=>obtain ⟨cur,g1,g2,g3,g4⟩:=ai;exact ⟨cur,cY.trans g1,g2,g3,fun o=>(KN o).trans (g4 o)⟩
   | map es=>obtain ⟨cQ,c,g1,g2,g3⟩:=ai;exact ⟨cQ,c,cY.trans g1,⟨g2.1.mono hle,g2.2.mono hle⟩,g3⟩
   | lz es it l c=>exact ai.q1 hle cY (h5 it (ai.z8 jN ba))
   | tick m=>obtain ⟨dE,a2,a3,g1⟩:=ai;exact ⟨dE,a2,a3,cY.trans g1⟩
   | loop r env=>exact ⟨cY.trans ai.1,fun t v h=>(ai.2 t v h).mono hle⟩
 ·rcases aF with aF|⟨rfl,_⟩
  ·simpa using cf.lt aY o aF
  ·simpa using au
 ·have fm:(xs++ys).length=n+us.length:=by rw [f6,az,hu.length]
  refine .aA _ 0 _ _ _ (vs++us) _ _ ba fm.symm ?_ ((aD.append hu).mono hle) (fun v aw=>?_) hm kE (fun h=>by cases h) (fun q8 r7=>?_)
  ·intro i v aw
   have kA:flat (vs++us)=new.toList.take ((n+us.length)*sz):=by
    rw [Gk,nO,← wv,ak7,← kF];have:n*sz+(flat us).length=(cur.toList.take (n*sz)++flat us).length:=by rw [f6,ae8,cy];omega
    rw [this,ay9]
   have aR:i<(n+us.length)*sz:=by
    have:=(ae2.1 aw).1;rw [kA,ae8] at this;omega
   refine ⟨.inr ⟨rfl,by omega⟩,?_⟩;rw [af5,jO dO];rw [kA,ai4,g6 aR] at aw;simpa using aw
  ·rcases ae'.1 aw with aw|aw
   ·exact ar v aw
   ·exact jk v aw
  ·cases r7
   exact ⟨rfl,rfl,e,by simp only [World.k1,dO,C8,pt]⟩
section
variable {P:Program} {Γ:cA} {N:Nat} {env:Env} {s:ao}
theorem C9 {t bI ty e:TypeId} {c9:TypeDesc} {i:TypeInfo} (w:World) (aN:P.underlying t=some (.slice e)) (c0:P.underlying bI=some c9) (cp:∀ k,c9 ≠ .int k) (aR:P.info? e=some i)
  (g sLen sCap:Nat) (cur:Array Value) (av:w.heap[g]? = some (.cells cur e (0,0))) {xv:Value} {m:Nat} {news:List Value}
  (aC:(Builtin.lenOf xv).run P w = .ok m w) (a7:(Builtin.firstCells i.size m xv).run P w = .ok news.toArray w) (U:∀ u∈news,u.oneCell'=true)
  (SD:sLen+m≤sCap) (fr:sLen*i.size+news.length≤cur.size) :
  (Builtin.append_ #[t,bI] ty #[.slice (some ⟨g,0,none⟩) sLen sCap,xv]).run P w =
   .ok (.slice (some ⟨g,0,none⟩) (sLen+m) sCap) (w.setRow g (cur.toList.take (sLen*i.size)++news++cur.toList.drop (sLen*i.size+news.length)).toArray):=by
 have aI:=run_storeCells_at P g (sLen*i.size) e news 0 cur w av (by simpa using fr) U;simp only [ao'] at aI;have bG:(match c9 with | .int _=>true|_=>false)=false:=by cases c9<;>first|rfl|exact absurd C (cp _)
 simp [Builtin.append_,run_underlying aN,run_underlying c0,sizeOf,typeInfo,aR,bG,aC,SD,a7,Addr.add_lit,aI]
theorem An {t bI ty e:TypeId} {c9:TypeDesc} {i:TypeInfo} {z:Value} (w:World) (aN:P.underlying t=some (.slice e)) (c0:P.underlying bI=some c9) (cp:∀ k,c9 ≠ .int k) (aR:P.info? e=some i) (bG:i.zero=some z)
  {base:Option Addr} {sLen sCap:Nat} {xv:Value} {m:Nat} {olds news:List Value}
  (aC:(Builtin.lenOf xv).run P w = .ok m w) (k4:(Builtin.firstCells i.size sLen (.slice base sLen sCap)).run P w.drew = .ok olds.toArray w.drew) (a7:(Builtin.firstCells i.size m xv).run P w.drew = .ok news.toArray w.drew)
  (av:sCap<sLen+m) (ek:((sLen+m:Nat):Int)≤9223372036854775807) (fr:Builtin.nextslicecap (sLen+m) sCap*i.bytes≤281474976710656) :
  (Builtin.append_ #[t,bI] ty #[.slice base sLen sCap,xv]).run P w =
   .ok (.slice (some ⟨w.heap.size,0,none⟩) (sLen+m) (grownCap w (sLen+m) sCap e))
    (w.drew.alloc (.cells (olds++news++(Builtin.zeroCells z.cells (grownCap w (sLen+m) sCap e-(sLen+m))).toList).toArray e)):=by
 have az:¬ (sLen+m≤sCap):=by omega
 have SE:¬ (9223372036854775807<((sLen:Int)+(m:Int))):=by omega
 have SF:¬ (281474976710656<Builtin.nextslicecap (sLen+m) sCap*i.bytes):=by omega
 have tl:(match c9 with | .int _=>true|_=>false)=false:=by cases c9<;>first|rfl|exact absurd C (cp _)
 simp [Builtin.append_,run_underlying aN,run_underlying c0,sizeOf,typeInfo,zeroValue,aR,bG,tl,aC,az,SE,SF,Question.forced,a7,k4,newRow,grownCap];congr 2;apply ap8;simp [ah0]
def km (sz:Nat) (x:ag):Bool:=match cellsOf x with
 | some cs=>af0 cs.length sz&&cs.all fe
 | none=>false
theorem SG {w:World} {p:bV} {sz:Nat}:∀ {vs:List Value} {xs:List ag},bH w p vs xs→(∀ x∈xs,km sz x=true)→∀ u∈flat vs,u.oneCell'=true:=by
 intro vs
 induction vs with
 | nil=>intro xs _ _ u hu;simp [flat] at hu
 | cons v vs a1=>
  intro xs h ab u hu;cases h with
  | cons _ x _ xs aD aN=>
  simp only [flat,ak0,ae'] at hu;rcases hu with hu|hu
  ·have:=ab x (i6 ..)
   unfold km at this;split at this
   ·rename_i cs hI
    simp only [f8] at this;exact q6 (q2 aD hI) this.2 u hu
   ·cases this
  ·exact a1 aN (fun y ay=>ab y (i0 _ ay)) u hu
theorem q9 {w:World} {p:bV} {v:Value} {sz sz':Nat} {xs:List ag} {own:bN} (h:Rel w p v (.aA sz xs own)) (cc:xs=[]∨sz=sz') :
  ∃ vs,bH w p vs xs∧(∀ u∈vs,u.cells.size=sz')∧(∀ P,(Builtin.lenOf v).run P w = .ok xs.length w) ∧
   (∀ P (w':World),(∀ b o,p b o→w'.cell? ⟨b,o,none⟩=w.cell? ⟨b,o,none⟩)→(Builtin.firstCells sz' xs.length v).run P w' = .ok (flat vs).toArray w') ∧
   ∃ base cap,v = .slice base xs.length cap:=by
 cases h with
 | h4 _ _ _=>exact ⟨[],.nil,by simp,fun P=>rfl,fun P w' _=>rfl,_,_,rfl⟩
 | iE a _ _ _=>exact ⟨[],.nil,by simp,fun P=>rfl,fun P w' _=>run_firstCells_some w' sz' 0 a _ _ [] ba ba,_,_,rfl⟩
 | aA g off n cap _ vs _ _ az aC aB aD ar hm aE cy ai=>
  have mz:∀ u∈vs,u.cells.size=sz':=by
   rcases cc with rfl|rfl
   ·have:vs=[]:=ai8 (by rw [aD.length];rfl)
    subst this;simp
   ·exact ar
  subst aC;refine ⟨vs,aD,mz,fun P=>rfl,fun P w' iS=>?_,_,_,rfl⟩;refine run_firstCells_some w' sz' xs.length ⟨g,off,none⟩ _ _ (flat vs) (by rw [wu mz,aD.length]) ?_;intro j u hu;obtain ⟨U,ad⟩:=aB j u hu;rw [lB,iS _ _ U];exact ad
theorem aZ.append (aP:bQ P Γ) {o:Oper} {t bI e:TypeId} {x y:Operand} {it cz aH:bO} {dX bY:Nat} {xs ys:List ag} {sa dr:bN}
    (ai:o.op = .call { callee := .builtin .append,args := #[x,y],argTypes := #[t,bI] }) (aN:Γ.get? t=some it) (bt:it.bF = .aA e) (c0:Γ.get? bI=some cz) (dy:∀ k,cz.bF ≠ .int k)
    (bJ:Γ.get? e=some aH) (ab:aM env x=some (.aA dX xs sa)) (ay:aM env y=some (.aA bY ys dr)) (gE:xs=[]∨dX=aH.size) (de:ys=[]∨bY=aH.size)
    (dS:af0 aH.zero.cells.size aH.size=true) (dC:∀ y∈ys,km aH.size y=true) (an:(xs.length+ys.length)*aH.bytes≤140737488355328) (ek:xs.length+ys.length≤9223372036854775807)
    (Ao:(sa = .nil∨sa = .clip)∨∃ b,sa = .own b∧dX=aH.size∧s b=some (.row e aH.size xs.length)) {X:ag→ao→Prop} :
    aZ P N o env s (fun r aj=>(ys=[]∧(sa = .nil∨sa = .clip)∧r = .aA aH.size xs sa∧aj=s) ∨
      (∃ s₁,(s₁=s∨∃ b,sa = .own b∧s₁=s.del b)∧∃ b,s₁ b=none∧r = .aA aH.size (xs++ys) (.own b)∧aj=s₁.set b (.row e aH.size (xs.length+ys.length)))) X:=by
  refine aZ.kB (by simp [gJ,ai]) fun ro B a w p aI=>?_
  obtain ⟨info,d,U,ad,al,-⟩:=aP.parts aN;obtain ⟨mZ,c9,g1,g2,g3,-⟩:=aP.parts c0;obtain ⟨j1,kC,cE,dq,fl,eK,j2,jz⟩:=aP.parts bJ;have ax:d = .slice e:=by rw [bt] at al;cases d<;>simp [eB] at al;rw [al]
  subst ax;have cp:∀ k,c9 ≠ .int k:=fun k e'=>by subst e';exact dy k g3.symm
  have gp:=aI.aM ab;have fs:=aI.aM ay;have eQ:∀ val w',(Builtin.append_ #[t,bI] o.type #[a.eval x,a.eval y]).run P w = .ok val w'→(execOp a.eval o).run P w = .ok (.value val) w':=by
    intro val w' h;unfold execOp;rw [ai];simp only [resolve,invoke,builtin,ac',ae6,i5,ar2,ae3,ah1,h]
  generalize ep:a.eval x=dR at gp eQ;generalize e9:a.eval y=fW at fs eQ;obtain ⟨us,iv,qb,j3,kn,tm,tn,tp⟩:=q9 fs de;obtain ⟨vs,uM,m7,ac0,KO,Ap,qc,tq⟩:=q9 gp gE;have hJ:=SG iv dC;have pq:=ae0 dS;have Gl:=wu qb;have KP:=wu m7;have m8:=iv.length;have q':=uM.length;have KQ:∀ s₁:ao,(s₁=s∨∃ b,sa = .own b∧s₁=s.del b)→qc<xs.length+ys.length →
      ∃ val w' aj bj nI,(Builtin.append_ #[t,bI] o.type #[dR,fW]).run P w = .ok val w'∧dg w p w' bj∧Kept s aj w p w' bj∧dx w' bj aj ∧
        (∃ b,s₁ b=none∧nI = .aA aH.size (xs++ys) (.own b)∧aj=s₁.set b (.row e aH.size (xs.length+ys.length)))∧Rel w' bj val nI:=by
    intro s₁ wy au;have hU:ao.Sub s₁ s:=by
      rcases wy with rfl|⟨b,-,rfl⟩
      · exact ao.pr _
      · intro aY;by_cases e':aY=b
        · subst e';exact .inr (ao.nN _ _)
        · exact .inl (ao.m3 _ e')
    have fr:=growslice_fits (need:=xs.length+ys.length) (old:=qc) (bytes:=aH.bytes) au an;have cS:=An (ty:=o.type) w ad g2 cp cE jz (base:=Ap) (sLen:=xs.length) (sCap:=qc) (m:=ys.length) (olds:=flat vs) (news:=flat us) (j3 P)
      (by rw [← tq,eK];exact KO P w.drew (fun _ _ _=>rfl)) (by rw [eK];exact kn P w.drew (fun _ _ _=>rfl)) au af (by rw [j2];exact fr)
    rw [← tq] at cS;have nP:=am' (show xs.length+ys.length≤xs.length+ys.length from g8 _) (show xs.length+ys.length≤grownCap w (xs.length+ys.length) qc e from by simp [grownCap,Question.cut]);have m9:(Builtin.zeroCells aH.zero.cells (grownCap w (xs.length+ys.length) qc e-(xs.length+ys.length))).toList.length=(grownCap w (xs.length+ys.length) qc e-(xs.length+ys.length))*aH.zero.cells.size:=by
      rw [ae9];simp [Builtin.zeroCells]
    rw [pq] at m9;have C':(xs++ys).length=xs.length+ys.length:=f6;obtain ⟨bj,ea,dj,dQ,m5,tr⟩:=SA (s:=s₁) (aI.wf.sub hU) (vs:=vs++us) (xs:=xs++ys) (sz:=aH.size) (cap:=grownCap w (xs.length+ys.length) qc e) (e:=e)
      (cur:=(flat vs++flat us++(Builtin.zeroCells aH.zero.cells (grownCap w (xs.length+ys.length) qc e-(xs.length+ys.length))).toList).toArray) (uM.append iv)
      (fun v aw=>by rcases ae'.1 aw with aw|aw;exact m7 v aw;exact qb v aw)
      (by
        simp only [an1,f6,KP,Gl,m9,q',m8,← ak7]
        congr 1;omega)
      (by
        have:(xs++ys).length*aH.size=(flat vs++flat us).length:=by rw [C',f6,KP,Gl,q',m8,ak7]
        rw [this,Gk];simp only [ay9])
      (by rw [C'];exact nP) (by rw [C'];exact ek)
    rw [C'] at dQ m5 tr;exact ⟨_,_,_,bj,_,cS,dj,dQ.ym hU,m5,⟨w.heap.size,ea,rfl,rfl⟩,tr⟩
  rcases Ao with Ao|⟨b,rfl,SH,wx⟩
  · by_cases au:qc<xs.length+ys.length
    · obtain ⟨val,w',aj,bj,nI,e8,fB,gq,jl,mA,mB⟩:=KQ s (.inl rfl) au
      exact ⟨val,w',aj,bj,nI,eQ _ _ e8,fB,gq,jl,.inr ⟨s,.inl C,mA⟩,mB⟩
    ·
      have kE:qc=xs.length:=by
        cases gp with
        | h4=>simp at tq;omega
        | iE=>simp at tq;omega
        | aA g off n cap _ vs' _ _ az aC aB aD ar hm aE cy ai=>
          simp only [Value.slice.injEq] at tq;rcases Ao with rfl|rfl
          · exact absurd C az
          · rw [← tq.2.2,cy C,aC]
      have yr:ys=[]:=ai8 af;subst yr;have C5:us=[]:=ai8 (by simpa using m8);subst C5;refine ⟨dR,w,s,p,.aA aH.size xs sa,eQ _ _ ?_,.refl w p,.refl s w p,aI.wf,.inl ⟨rfl,Ao,rfl,rfl⟩,?_⟩
      · have bG:(match c9 with | .int _=>true|_=>false)=false:=by cases c9<;>first|rfl|exact absurd C (cp _)
        have hle:xs.length≤qc:=by omega
        have qd:=kn P w (fun _ _ _=>rfl);simp only [List.length_nil] at qd j3;have uN:=j3 P;rw [tq];cases Ap with
        | none=>simp [Builtin.append_,run_underlying ad,run_underlying g2,sizeOf,typeInfo,cE,bG,uN,eK,qd,hle,flat]
        | some aeh=>simp [Builtin.append_,run_underlying ad,run_underlying g2,sizeOf,typeInfo,cE,bG,uN,eK,qd,hle,flat,storeCells]
      · rcases gE with rfl|rfl
        · cases gp with
          | h4 _ _ h=>exact .h4 _ _ h
          | iE a _ _ h=>exact .iE a _ _ h
          | aA g off n cap _ vs' _ _ az aC aB aD ar hm aE cy ai=>
            have:vs'=[]:=ai8 (by rw [aD.length];rfl);subst this;exact .aA g off n cap _ [] _ _ az aC aB aD ba hm aE cy (fun b an=>by rcases Ao with rfl|rfl<;>cases an)
        · exact gp
  · by_cases au:qc<xs.length+ys.length
    · obtain ⟨val,w',aj,bj,nI,e8,fB,gq,jl,mA,mB⟩:=KQ (s.del b) (.inr ⟨b,rfl,rfl⟩) au
      exact ⟨val,w',aj,bj,nI,eQ _ _ e8,fB,gq,jl,.inr ⟨_,.inr ⟨b,rfl,rfl⟩,mA⟩,mB⟩
    · cases gp with
      | h4 _ _ h=>exact absurd C (h b)
      | iE _ _ _ h=>rcases h with h|h<;>cases h
      | aA g off n cap _ vs' _ _ az aC aB aD ar hm aE cy ai=>
        obtain ⟨rfl,rfl,e',KR⟩:=ai b rfl;obtain ⟨cur,cu,cL,⟨cg,dT⟩,qe⟩:=aI.wf.obj _ _ wx;simp only [Value.slice.injEq] at tq;obtain ⟨rfl,-,rfl⟩:=tq;have pt:cur.size=cap*dX:=by
          simp only [World.k1,cu] at KR;simpa using ae7 Prod.snd (ao1.inj KR)
        have Gm:cur.size=cap*aH.size:=by rw [← SH];exact pt
        have wv:cur.toList.take (xs.length*aH.size)=flat vs:=by
          have b2:=KO P w (fun _ _ _=>rfl);have bU:=run_firstCells_some (P:=P) w aH.size xs.length ⟨b,0,none⟩ n cap (cur.toList.take (xs.length*aH.size))
            (by have cy:cur.toList.length=cap*aH.size:=by rw [ae9,Gm]
                rw [ae8,cy];have:=am9 aH.size (show xs.length≤cap by omega);omega)
            (fun j u hu=>by
              rw [lB,af5,jO cu]
              rw [ai4] at hu
              split at hu
              · simpa using hu
              · cases hu)
          rw [bU] at b2;have:=Result.ok.inj b2;simpa using this.1
        have cS:=C9 (ty:=o.type) w ad g2 cp cE b xs.length cap cur cu (j3 P) (by rw [eK];exact kn P w (fun _ _ _=>rfl)) hJ af (by rw [eK,Gl,Gm,m8,← ak7];exact am9 _ af);rw [eK] at cS;obtain ⟨bj,e8,fB,gq,jl⟩:=SB aI.wf wx cu Gm rfl uM iv m7 qb wv (by rw [m8];omega) (by rw [m8];exact ek);rw [m8] at fB gq jl;subst aC;exact ⟨_,_,_,bj,_,eQ _ _ cS,e8,fB,gq,.inr ⟨_,.inr ⟨_,rfl,rfl⟩,_,ao.nN _ _,rfl,rfl⟩,jl⟩
end
inductive eC where
 | ret (v:ag)
 | panic (v:ag)
def SI (w:World) (p:bV):Ending→eC→Prop
 | .returned v,.ret x=>Rel w p v x
 | .panicked dJ,.panic x=>∃ v,yk v dJ∧Rel w p v x
 | _,_=>False
def wz (s:ao) (w:World) (p:bV) (R:eC→ao→Prop) (e:Ending) (w':World):Prop:=
 ∃ o aj bj,SI w' bj e o∧R o aj∧dg w p w' bj∧Kept s aj w p w' bj∧dx w' bj aj
def hY (P:Program) (fv:ag) (args:List ag) (s:ao) (R:eC→ao→Prop):Prop:=
 ∀ w p v vs,dx w p s→Rel w p v fv→bH w p vs args→p7 P ((do let d ← Deferred.ofValue v vs.toArray;invoke d.target d.args:Sem Next).run P w) (wz s w p R)
def ts (P:Program) (f:FuncId):Prop:=∀ args w,(callFunc f args).run P w = .ok (.enter f args) w
def hp (P:Program) (f:FuncId) (args:List ag) (s:ao) (R:eC→ao→Prop):Prop:=
 ts P f∧∀ w p vs,dx w p s→bH w p vs args→s' P f vs.toArray w (wz s w p R)
theorem Aq {P:Program} {f:FuncId} {fn:Func} (a7:P.funcs[f]? = some fn) (az:(fn.name == "runtime.NumGoroutine")=false) (an:fn.body.isNone=false):ts P f:=by
 intro args w;unfold callFunc;simp only [ac',run_program,i5,a7,az,an,af8,ah',ae6]
theorem wz.mono {s:ao} {w:World} {p:bV} {R dw:eC→ao→Prop} (aD:∀ o s,R o s→dw o s) {e:Ending} {w':World} (h:wz s w p R e w'):wz s w p dw e w' :=
 let ⟨o,aj,bj,U,ad,al⟩:=h;⟨o,aj,bj,U,aD _ _ ad,al⟩
theorem hY.mono {P:Program} {fv:ag} {args:List ag} {s:ao} {R dw:eC→ao→Prop} (h:hY P fv args s R) (aD:∀ o s,R o s→dw o s):hY P fv args s dw :=
 fun w p v vs U ad al=>(h w p v vs U ad al).mono fun _ _ q=>q.mono aD
theorem hp.mono {P:Program} {f:FuncId} {args:List ag} {s:ao} {R dw:eC→ao→Prop} (h:hp P f args s R) (aD:∀ o s,R o s→dw o s):hp P f args s dw :=
 ⟨h.1,fun w p vs U ad=>(h.2 w p vs U ad).mono fun _ _ q=>q.mono aD⟩
theorem hY.fx {P:Program} {f:FuncId} {first cap args:List ag} {s:ao} {R:eC→ao→Prop} (h:hp P f (first++(args++cap)) s R):hY P (.func f first cap) args s R:=by
 intro w p v vs cf aw eP;cases aw with
 | func _ as cs _ _ a6 aB=>
 have cS:(do let d ← Deferred.ofValue (.func (.func f) as cs) vs.toArray;invoke d.target d.args:Sem Next).run P w = .ok (.enter f (as++vs.toArray++cs)) w:=by
  simp only [Deferred.ofValue,ac',ae6,i5,invoke];exact h.1 _ _
 rw [cS];have:=h.2 w p (as.toList++(vs++cs.toList)) cf (a6.append (eP.append aB));have e:(as.toList++(vs++cs.toList)).toArray=as++vs.toArray++cs:=by apply ap8;simp
 rw [e] at this;exact this
section
variable {P:Program} {Γ:cA} {N:Nat} {env:Env} {s:ao}
theorem aZ.call {o:Oper} {g:Operand} {as:Array Operand} {da:Array TypeId} {fv:ag} {xs:List ag} {R:eC→ao→Prop}
  (ai:o.op = .call { callee := .value g,args:=as,argTypes:=da }) (av:aM env g=some fv) (a6:fX env as.toList=some xs) (h:hY P fv xs s R) :
  aZ P N o env s (fun x aj=>R (.ret x) aj) (fun x aj=>R (.panic x) aj):=by
 refine ⟨by simp [gJ,ai],fun ro B a w p aI=>?_⟩;have cS:=h w p (a.eval g) (as.toList.map a.eval) aI.wf (aI.aM av) (CV aI a6);have he:execOp a.eval o=(do let d ← Deferred.ofValue (a.eval g) (as.toList.map a.eval).toArray;invoke d.target d.args:Sem Next):=by
  unfold execOp;rw [ai];simp only [resolve];congr 1;congr 1;apply ap8;simp
 rw [he];refine cS.mono ?_;rintro e w' ⟨out,aj,bj,U,ad,al,bf,bE⟩;refine ⟨aj,bj,al,bf,bE,?_⟩;cases e<;>cases out<;>first|exact U.elim|skip
 ·exact ⟨_,ad,U⟩
 ·obtain ⟨v,Gn,Gp⟩:=U;exact ⟨v,_,Gn,ad,Gp⟩
theorem fN.call {ops:Array Oper} {Q:b9→Env→ao→Prop} {i:Nat} {l:List Nat} {o:Oper} {d:Nat} {f:FuncId} {as:Array Operand} {da:Array TypeId} {xs:List ag} {R:eC→ao→Prop}
  (ai:ops[i]? = some o) (av:guardOf ops env o=some true) (ax:o.dst=some d) (aU:t8 d N=true) (b3:o.op = .call { callee := .value (.func f),args:=as,argTypes:=da })
  (a6:fX env as.toList=some xs) (h:hp P f xs s R) (aE:∀ x aj,R (.ret x) aj→fN P N ops l Q ((d,x)::env) aj) (ab:∀ x aj,R (.panic x) aj→Q (.panic x) env aj) :
  fN P N ops (i::l) Q env s:=
 fN.op ai av ax aU (aZ.call b3 (fv := .func f [] []) C a6 (hY.fx e2)) aE ab
theorem fN.Gq {ops:Array Oper} {Q:b9→Env→ao→Prop} {i:Nat} {l:List Nat} {o:Oper} {d:Nat} {g:Operand} {fv:ag} {as:Array Operand} {da:Array TypeId} {xs:List ag} {R:eC→ao→Prop}
  (ai:ops[i]? = some o) (av:guardOf ops env o=some true) (ax:o.dst=some d) (aU:t8 d N=true) (b3:o.op = .call { callee := .value g,args:=as,argTypes:=da })
  (aw:aM env g=some fv) (a6:fX env as.toList=some xs) (h:hY P fv xs s R) (aE:∀ x aj,R (.ret x) aj→fN P N ops l Q ((d,x)::env) aj) (ab:∀ x aj,R (.panic x) aj→Q (.panic x) env aj) :
  fN P N ops (i::l) Q env s:=
 fN.op ai av ax aU (aZ.call b3 aw a6 h) aE ab
def qf (P:Program) (t:TypeId) (name:String) (f:FuncId):Prop:=∀ v w,(method (P.types.size+Made.depth) t v name).run P w = .ok (f,v) w
theorem SJ {P:Program} {t:TypeId} {name:String} {f:FuncId} {info:TypeInfo} {m:Method} {d:TypeDesc} (aR:P.info? t=some info) (hm:info.methods.find? (·.name==name)=some m) (aF:m.path = #[])
  (a7:m.func=some (f,false)) (ax:P.underlying t=some d) (SK:∀ e,d ≠ .pointer e) (SL:∃ n,P.types.size+Made.depth=n+1):qf P t name f:=by
 intro v w;obtain ⟨n,az⟩:=SL;rw [az];unfold method;simp only [ac',typeInfo,run_program,i5,aR,ae6,hm,aF,follow,a7,receiverAt,run_underlying ax];cases d<;>first|exact absurd C (SK _)|rfl
theorem SM {name:String} {cap args:Array Value}:Go.invoke (.fn (.method name) cap) args=(match args[0]? with
  | some recv=>callMethod recv name (args.extract 1 args.size)
  | none=>stuck "call: a method without a receiver"):=by
 cases h:args[0]? <;> simp [Go.invoke,h]
theorem aZ.invoke {o:Oper} {g:Operand} {name:String} {as:Array Operand} {da:Array TypeId} {t:TypeId} {v:ag} {f:FuncId} {xs:List ag} {R:eC→ao→Prop}
  (ai:o.op = .call { callee := .invoke g name,args:=as,argTypes:=da }) (av:aM env g=some (.iface t v)) (a6:fX env as.toList=some xs) (hm:qf P t name f) (h:hp P f (v::xs) s R) :
  aZ P N o env s (fun x aj=>R (.ret x) aj) (fun x aj=>R (.panic x) aj):=by
 refine ⟨by simp [gJ,ai],fun ro B a w p aI=>?_⟩;have mC:=aI.aM av;generalize SN:a.eval g=aem at mC;cases mC with
 | iface _ val _ m'=>
 have cS:(execOp a.eval o).run P w = .ok (.enter f (#[val]++(as.map a.eval))) w:=by
  unfold execOp;rw [ai];have hex:(#[Value.iface t val]++as.map a.eval).extract 1 (#[Value.iface t val]++as.map a.eval).size=as.map a.eval:=by
   apply ap8;simp [av6,List.take_of_length_le]
  have bq:(#[Value.iface t val]++as.map a.eval)[0]? = some (Value.iface t val):=by
   rw [at0 ba];rfl
  simp only [resolve,SN,ac',ae6,i5];rw [Go.Proofs.YtnafpeohfbglmaaGreat.SM,bq];simp only [hex,callMethod,ac',run_program,i5,hm val w];exact h.1 _ _
 rw [cS];have:=h.2 w p (val::as.toList.map a.eval) aI.wf (.cons _ _ _ _ m' (CV aI a6));have e:(val::as.toList.map a.eval).toArray = #[val]++(as.map a.eval):=by apply ap8;simp
 rw [e] at this;refine this.mono ?_;rintro e w' ⟨out,aj,bj,U,ad,al,bf,bE⟩;refine ⟨aj,bj,al,bf,bE,?_⟩;cases e<;>cases out<;>first|exact U.elim|skip
 ·exact ⟨_,ad,U⟩
 ·obtain ⟨v,Gn,Gp⟩:=U;exact ⟨v,_,Gn,ad,Gp⟩
theorem aZ.panic {o:Oper} {x:Operand} {t:TypeId} {v:ag} (ai:o.op = .panic x) (ab:aM env x=some (.iface t v)) {K:ag→ao→Prop}:aZ P N o env s K (fun u aj=>u = .iface t v∧aj=s):=by
 refine ⟨by simp [gJ,ai],fun ro B a w p aI=>?_⟩;have aD:=aI.aM ab;generalize aw:a.eval x=dR at aD;cases aD with
 | iface _ val _ m'=>
 have cS:(execOp a.eval o).run P w = .halt (.panic (.iface t val)) w:=by
  unfold execOp;rw [ai];simp only [aw,Instr.panic,ac',run_goPanic,Result.andThen_halt]
 rw [cS];exact ⟨s,p,.refl w p,.refl s w p,aI.wf,_,_,yk.one _,⟨rfl,rfl⟩,.iface _ _ _ m'⟩
theorem KS {sz:Nat}:∀ {vs:List Value} (_:∀ v∈vs,v.cells.size=sz) {j:Nat} {v:Value} (_:vs[j]? = some v) (k:Nat) {u:Value} (_:v.cells.toList[k]? = some u),(flat vs)[j*sz+k]? = some u:=by
 intro vs
 induction vs with
 | nil=>intro _ j v aw;simp at aw
 | cons x vs a1=>
  intro ar j v aw k u hu;have ab:=ar x (i6 ..);simp only [flat,ak0];cases j with
  | zero=>
   simp at aw;subst aw;rw [Nat.zero_mul,af5,ag0 (ae2.1 hu).1];exact hu
  | succ j=>
   have aC:x.cells.toList.length=sz:=by rw [ae9,ab]
   have:=a1 (fun v aw=>ar v (i0 _ aw)) (by simpa using aw) k hu;rw [af4 (by rw [aC,ak7];omega),aC];have he:(j+1)*sz+k-sz=j*sz+k:=by rw [ak7];omega
   rw [he];exact this
theorem aZ.idx (aP:bQ P Γ) {o:Oper} {t e:TypeId} {x y:Operand} {it aH:bO} {xs:List ag} {own:bN} {k:IntKind} {i:Int} {j:Nat} {v:ag} {cs:List ag} (ai:o.op = .indexAddr t x y)
  (aN:Γ.get? t=some it) (bt:it.bF = .aA e) (bJ:Γ.get? e=some aH) (ab:aM env x=some (.aA aH.size xs own)) (ay:aM env y=some (.int k i)) (eU:i=(j:Int)) (aL:xs[j]? = some v)
  (aB:cellsOf v=some cs) {X:ag→ao→Prop}:aZ P N o env s (fun r aj=>r = .bw cs 0∧aj=s) X:=by
 refine aZ.kB (by simp [gJ,ai]) fun ro B a w p aI=>?_
 obtain ⟨info,d,U,ad,al,-⟩:=aP.parts aN;obtain ⟨j1,kC,cE,dq,fl,eK,-⟩:=aP.parts bJ;have ax:d = .slice e:=by rw [bt] at al;cases d<;>simp [eB] at al;rw [al]
 subst ax;have aD:=aI.aM ab;have jm:=aI.aM ay;generalize ep:a.eval x=dR at aD;generalize e9:a.eval y=fW at jm;cases jm;subst eU;have ra:j<xs.length:=(ae2.1 aL).1;cases aD with
 | h4=>simp at aL
 | iE=>simp at aL
 | aA g off n cap _ vs _ _ az aC cy gW ar hm aE KT cD=>
 obtain ⟨u,hu,Ag⟩:=gW.get aL;have nM:=q2 Ag aB;refine ⟨.pointer (some ⟨g,off+j*aH.size,none⟩),w,s,p,_,?_,.refl w p,.refl s w p,aI.wf,⟨rfl,rfl⟩,.bw g (off+j*aH.size) _ 0 u.cells.toList cs C ?_ nM⟩
 ·unfold execOp
  rw [ai];simp only [ep,e9];refine gV ?_;have au:(0:Int)≤(j:Int)∧(j:Int)<(n:Int):=by omega
  simp [Instr.indexAt,asIntOf,run_underlying ad,au.2,sizeOf,typeInfo,cE,eK,lB];intro aV;omega
 ·intro i ff m4
  have:=cy (j*aH.size+i) ff (KS ar hu i m4);rw [← ao4] at this;exact this
end
def wA (Γ:cA) (o:Oper) (env:Env):Option ag:=
  match o.op with
  | .binOp .quo _ x (.const (.int k (.ofNat (n+1)))) _=>match aM env x with
    | some (.int k' a)=>if k'=k then some (.int k (k.wrap (a.tdiv (aq1 (n+1))))) else none
    | _=>none
  | .binOp .rem _ x (.const (.int k (.ofNat (n+1)))) _=>match aM env x with
    | some (.int k' a)=>if k'=k then some (.int k (a.tmod (aq1 (n+1)))) else none
    | _=>none
  | .convert s d x=>match Γ.get? s,Γ.get? d with
    | some ⟨.int _,_,_,_⟩,some ⟨.int k,_,_,_⟩=>match aM env x with
      | some (.int _ n)=>some (.int k (k.wrap n))
      | _=>none
    | _,_=>none
  | .call { callee := .builtin .max,args,argTypes:=_ }=>match args.toList with
    | [x,y]=>match aM env x,aM env y with
      | some (.int k a),some (.int _ b)=>some (.int k (if b>a then b else a))
      | _,_=>none
    | _=>none
  | .call { callee := .builtin .min,args,argTypes:=_ }=>match args.toList with
    | [x,y]=>match aM env x,aM env y with
      | some (.int k a),some (.int _ b)=>some (.int k (if b<a then b else a))
      | _,_=>none
    | _=>none
  | _=>none
section
variable {P:Program} {Γ:cA} (aP:bQ P Γ) {N:Nat} {B:fV} {ro:Option Nat} {env:Env} {s:ao} {a:Act} {w:World} {p:bV} (aI:dI N B ro env s a w p)
theorem tt {o:Oper} {op:BinOp} {t yt:TypeId} {x y:Operand} {v:Value} {r:ag} (ai:o.op = .binOp op t x y yt)
  (U:(eqGuard op t x y (a.eval x) (a.eval y)).run P w = .ok () w) (ad:(binOp op t (a.eval x) (a.eval y)).run P w = .ok v w) (aD:Rel w p v r):gU P o a w p r:=by
 refine .same (val:=v) ?_ aD;unfold execOp;rw [ai];refine gV ?_;rw [ac',U,i5,ad]
include aI
include aP
theorem SO {o:Oper} {v:ag} (h:wA Γ o env=some v):gU P o a w p v:=by
 unfold wA at h;split at h
 ·rename_i t x k n yt ai
  split at h
  ·rename_i k' u ab
   split at h
   ·rename_i aE
    cases h;subst aE;have U:=aI.aM ab;generalize aw:a.eval x=dR at U;cases U;refine tt (v := .int k' (k'.wrap (u.tdiv (aq1 (n+1))))) ai ?_ ?_ (.int _ _)
    ·rfl
    ·rw [aw]
     have az:¬ (aq1 (n+1)=0):=by simp;omega
     simp only [Act.eval,binOp,Op.intDiv,ne_eq,not_true_eq_false,ah',az,ae6]
   ·cases h
  ·cases h
 ·rename_i t x k n yt ai
  split at h
  ·rename_i k' u ab
   split at h
   ·rename_i aE
    cases h;subst aE;have U:=aI.aM ab;generalize aw:a.eval x=dR at U;cases U;refine tt (v := .int k' (u.tmod (aq1 (n+1)))) ai ?_ ?_ (.int _ _)
    ·rfl
    ·rw [aw]
     have az:¬ (aq1 (n+1)=0):=by simp;omega
     simp only [Act.eval,binOp,Op.intDiv,ne_eq,not_true_eq_false,ah',az,ae6]
   ·cases h
  ·cases h
 ·rename_i j4 d x ai
  split at h
  ·rename_i KU dE a2 a3 k ho cT na ar ax
   split at h
   ·rename_i cE n ab
    cases h;obtain ⟨info,d1,U,ad,al,-⟩:=aP.parts ar;obtain ⟨mZ,KV,ow,ox,wg,-⟩:=aP.parts ax;have b2:KV = .int k:=by cases KV<;>simp [eB] at wg;rw [wg]
    have aD:=aI.aM ab;generalize aw:a.eval x=dR at aD;cases aD;refine .same (val := .int k (k.wrap n)) ?_ (.int _ _);unfold execOp;rw [ai];refine gV ?_;subst b2;rw [aw];cases d1<;>simp [eB] at al
    simp [convert,run_underlying ad,run_underlying ox,Conv.intToInt]
   ·cases h
  ·cases h
 ·rename_i args gw ai
  split at h
  ·rename_i x y aC
   have oA:args = #[x,y]:=by apply ap8;simpa using aC
   subst oA;split at h
   ·rename_i k u k' ff ab ay
    cases h;have U:=aI.aM ab;have ad:=aI.aM ay;generalize ep:a.eval x=dR at U;generalize e9:a.eval y=fW at ad;cases U;cases ad;refine .same (val := .int k (if ff>u then ff else u)) ?_ (.int _ _);unfold execOp;rw [ai];simp only [resolve,invoke,builtin,ac',ae6,i5,ar2,ae3,ah1,ep,e9,run_max_int2]
   ·cases h
  ·cases h
 ·rename_i args gw ai
  split at h
  ·rename_i x y aC
   have oA:args = #[x,y]:=by apply ap8;simpa using aC
   subst oA;split at h
   ·rename_i k u k' ff ab ay
    cases h;have U:=aI.aM ab;have ad:=aI.aM ay;generalize ep:a.eval x=dR at U;generalize e9:a.eval y=fW at ad;cases U;cases ad;refine .same (val := .int k (if ff<u then ff else u)) ?_ (.int _ _);unfold execOp;rw [ai];simp only [resolve,invoke,builtin,ac',ae6,i5,ar2,ae3,ah1,ep,e9,run_min_int2]
   ·cases h
  ·cases h
 ·cases h
omit aI aP in
theorem SP {o:Oper} {v:ag} (h:wA Γ o env=some v):gJ o=true:=by
 unfold gJ;cases ai:o.op<;>first|rfl|(unfold wA at h;rw [ai] at h;cases h)
omit aP in
theorem SQ {o:Oper} {t yt:TypeId} {x y:Operand} {u v:List UInt8} (ai:o.op = .binOp .add t x y yt) (ab:aM env x=some (.str u)) (ay:aM env y=some (.str v)) (aC:u.length+v.length≤9223372036854775807) :
  gU P o a w p (.str (u++v)):=by
 have U:=aI.aM ab;have ad:=aI.aM ay;generalize ep:a.eval x=dR at U;generalize e9:a.eval y=fW at ad;cases U with|str ho _ b2=>cases ad with|str cT _ bU=>
 refine tt (v := .string (ho++cT)) ai ?_ ?_ ?_
 ·exact rfl
 ·rw [ep,e9]
  have ar:¬ ((ho.size+cT.size:Nat):Int)>IntKind.i64.max:=by
   have dE:ho.size=u.length:=by rw [← b2];simp
   have a2:cT.size=v.length:=by rw [← bU];simp
   have:IntKind.i64.max=9223372036854775807:=by decide
   rw [dE,a2,this];omega
  simp only [binOp,Op.stringOp,f0 ar,ae6]
 ·exact .str _ _ (by rw [← b2,← bU];simp [ByteArray.data_append])
theorem SR {o:Oper} {t e:TypeId} {x y:Operand} {it aH:bO} {sz:Nat} {xs:List ag} {own:bN} {k:IntKind} {i:Int} {j:Nat} {v:ag} {cs:List ag} (ai:o.op = .indexAddr t x y)
  (aN:Γ.get? t=some it) (bt:it.bF = .aA e) (bJ:Γ.get? e=some aH) (ab:aM env x=some (.aA sz xs own)) (cc:sz=aH.size) (ay:aM env y=some (.int k i)) (eU:i=(j:Int)) (aL:xs[j]? = some v)
  (aB:cellsOf v=some cs):gU P o a w p (.bw cs 0):=by
 subst cc;obtain ⟨info,d,U,ad,al,-⟩:=aP.parts aN;obtain ⟨j1,kC,cE,dq,fl,eK,-⟩:=aP.parts bJ;have ax:d = .slice e:=by rw [bt] at al;cases d<;>simp [eB] at al;rw [al]
 subst ax;have aD:=aI.aM ab;have jm:=aI.aM ay;generalize ep:a.eval x=dR at aD;generalize e9:a.eval y=fW at jm;cases jm;subst eU;have ra:j<xs.length:=(ae2.1 aL).1;cases aD with
 | h4=>simp at aL
 | iE=>simp at aL
 | aA g off n cap _ vs _ _ az aC cy gW ar hm aE KT cD=>
 obtain ⟨u,hu,Ag⟩:=gW.get aL;have nM:=q2 Ag aB;refine .same (val := .pointer (some ⟨g,off+j*aH.size,none⟩)) ?_ (.bw g (off+j*aH.size) _ 0 u.cells.toList cs C ?_ nM)
 ·unfold execOp
  rw [ai];simp only [ep,e9];refine gV ?_;have au:(0:Int)≤(j:Int)∧(j:Int)<(n:Int):=by omega
  simp [Instr.indexAt,asIntOf,run_underlying ad,au.2,sizeOf,typeInfo,cE,eK,lB];intro aV;omega
 ·intro i ff m4
  have:=cy (j*aH.size+i) ff (KS ar hu i m4);rw [← ao4] at this;exact this
theorem SS {o:Oper} {t:TypeId} {x y:Operand} {it:bO} {l:List UInt8} {k:IntKind} {i:Int} {j:Nat} {b:UInt8} (ai:o.op = .index t x y)
  (aN:Γ.get? t=some it) (bt:it.bF = .str) (ab:aM env x=some (.str l)) (ay:aM env y=some (.int k i)) (eU:i=(j:Int)) (aL:l[j]? = some b) :
  gU P o a w p (.int .u8 b.toNat):=by
 obtain ⟨info,d,U,ad,al,-⟩:=aP.parts aN;have ax:d = .string:=by rw [bt] at al;cases d<;>simp [eB] at al;rfl
 subst ax;have aD:=aI.aM ab;have jm:=aI.aM ay;generalize ep:a.eval x=dR at aD;generalize e9:a.eval y=fW at jm;cases jm;subst eU;cases aD with
 | str nb _ e=>
 have av:nb[j]? = some b:=by
  rw [← e] at aL;have:nb.data[j]? = some b:=by simpa using aL
  exact this
 refine .same (val := .int .u8 b.toNat) ?_ (.int _ _);unfold execOp;rw [ai];simp only [ep,e9];refine gV ?_;simp [Instr.index,asIntOf,run_underlying ad,av]
omit aI aP in
theorem SU {sz:Nat}:∀ {vs:List Value} (_:∀ v∈vs,v.cells.size=sz) (l:Nat) (i:Nat),l≤vs.length→(flat (vs.drop l))[i]? = (flat vs)[l*sz+i]?:=by
 intro vs
 induction vs with
 | nil=>
  intro _ l i aC;have:l=0:=by simpa using aC
  subst this;simp
 | cons v vs a1=>
  intro ar l i aC;cases l with
  | zero=>simp
  | succ l=>
   have aw:=ar v (i6 ..);rw [ar4,a1 (fun v aw=>ar v (i0 _ aw)) l i (by simpa using aC)];simp only [flat,ak0];rw [af4 (by rw [ae9,aw,ak7];omega),ae9,aw];congr 1;rw [ak7];omega
omit aI aP in
theorem SV {vs:List Value} (h:Nat) {i:Nat} {u:Value} (hu:(flat (vs.take h))[i]? = some u):(flat vs)[i]? = some u:=by
 have:flat vs=flat (vs.take h)++flat (vs.drop h):=by rw [← Gk,List.take_append_drop]
 rw [this,ag0 (ae2.1 hu).1];exact hu
theorem SW {o:Oper} {t e:TypeId} {x:Operand} {gF aR jA:Option Operand} {it aH:bO} {sz:Nat} {xs:List ag} {own cM:bN} {l h:Nat} (ai:o.op = .slice t x gF aR jA)
  (aN:Γ.get? t=some it) (bt:it.bF = .aA e) (bJ:Γ.get? e=some aH) (ab:aM env x=some (.aA sz xs own)) (cc:xs=[]∨sz=aH.size)
  (iT:(gF=none∧l=0)∨∃ y k,gF=some y∧aM env y=some (.int k (l:Int))) (rb:(aR=none∧jA=none∧h=xs.length)∨∃ y k,aR=some y∧aM env y=some (.int k (h:Int)))
  (nQ:(jA=none∧cM = .bb)∨(∃ y k,jA=some y∧aM env y=some (.int k (h:Int))∧cM = .clip)) (aC:l≤h) (cY:h≤xs.length):gU P o a w p (.aA sz ((xs.take h).drop l) cM):=by
 obtain ⟨info,d,U,ad,al,-⟩:=aP.parts aN;obtain ⟨j1,kC,cE,dq,fl,eK,-⟩:=aP.parts bJ;have ax:d = .slice e:=by rw [bt] at al;cases d<;>simp [eB] at al;rw [al]
 subst ax;have jn:∀ b,cM ≠ .own b:=by rcases nQ with ⟨-,rfl⟩|⟨_,_,-,-,rfl⟩<;>simp
 have uO:cM ≠ .nil:=by rcases nQ with ⟨-,rfl⟩|⟨_,_,-,-,rfl⟩<;>simp
 have qg:∀ {y k} {n:Nat},aM env y=some (.int k (n:Int))→a.eval y = .int k (n:Int):=fun he=>by
  have:=aI.aM he;generalize a.eval _=v at this ⊢;cases this;rfl
 have SX:∀ (cap:Nat),xs.length≤cap→∃ m,(Instr.sliceBounds true xs.length cap (gF.map a.eval) (aR.map a.eval) (jA.map a.eval)).run P w = .ok (l,h,m) w∧h≤m∧m≤cap∧(cM = .clip→m=h):=by
  intro cap kE;have az:∀ n:Nat,(0:Int)≤(n:Int):=fun n=>by omega
  have Gr:(l:Int)≤(h:Int):=by omega
  have Da:(h:Int)≤(cap:Int):=by omega
  rcases nQ with ⟨rfl,rfl⟩|⟨adZ,aen,rfl,uP,rfl⟩
  ·rcases rb with ⟨rfl,-,rfl⟩|⟨SY,SZ,rfl,Ar⟩
   ·refine ⟨cap,?_,kE,g8 _,by simp⟩
    rcases iT with ⟨rfl,rfl⟩|⟨KW,nR,rfl,hK⟩
    ·simp [Instr.sliceBounds]
    ·simp [Instr.sliceBounds,qg hK,run_sliceBound,az,Gr]
   ·refine ⟨cap,?_,by omega,g8 _,by simp⟩
    rcases iT with ⟨rfl,rfl⟩|⟨KW,nR,rfl,hK⟩
    ·simp [Instr.sliceBounds,qg Ar,run_sliceBound,az,Da]
    ·simp [Instr.sliceBounds,qg Ar,qg hK,run_sliceBound,az,Gr,Da]
  ·rcases rb with ⟨-,bq,-⟩|⟨SY,SZ,rfl,Ar⟩
   ·cases bq
   ·refine ⟨h,?_,g8 _,by omega,fun _=>rfl⟩
    rcases iT with ⟨rfl,rfl⟩|⟨KW,nR,rfl,hK⟩
    ·simp [Instr.sliceBounds,qg Ar,qg uP,run_sliceBound,az,Da]
    ·simp [Instr.sliceBounds,qg Ar,qg hK,qg uP,run_sliceBound,az,Gr,Da]
 have eQ:∀ base cap val,a.eval x = .slice base xs.length cap→xs.length≤cap→(∀ m,h≤m→m≤cap→(cM = .clip→m=h)→Rel w p (.slice (if m=l then base else base.map (·.add (l*aH.size))) (h-l) (m-l)) val)→gU P o a w p val:=by
  intro base cap val ep kE eW;obtain ⟨m,an,nS,iU,S0⟩:=SX cap kE;refine .same ?_ (eW m nS iU S0);unfold execOp;rw [ai];simp only [ep];refine gV ?_;simp only [Instr.sliceAt,Instr.slice,ac',run_underlying ad,i5,an,sizeOf,typeInfo,run_program,cE,ae6,eK]
 have aD:=aI.aM ab;generalize ep:a.eval x=dR at aD;cases aD with
 | h4 _ _ _=>
  refine eQ none 0 _ ep (g8 _) (fun m U ad al=>?_);have b2:h=0:=by simpa using cY
  have bU:l=0:=by omega
  have e1:m=0:=by omega
  subst b2;subst bU;subst e1;simp only [ag7,aD1,aw9];exact .h4 _ _ jn
 | iE a _ _ _=>
  refine eQ (some a) 0 _ ep (g8 _) (fun m U ad al=>?_);have b2:h=0:=by simpa using cY
  have bU:l=0:=by omega
  have e1:m=0:=by omega
  subst b2;subst bU;subst e1;simp only [ag7,aD1,aw9];refine .iE a _ _ ?_;cases cM with
  | bb=>exact .inl C
  | clip=>exact .inr C
  | nil=>exact absurd C uO
  | own b=>exact absurd C (jn b)
 | aA g off n cap _ vs _ _ az l1 cy gW ar hm aE KT cD=>
  subst l1;refine eQ _ cap _ ep aE (fun m U ad al=>?_);have hlen:h-l=((xs.take h).drop l).length:=by simp;omega
  have fC:=gW.length;have S1:∃ Db,(if m=l then (some ⟨g,off,none⟩:Option Addr) else (some ⟨g,off,none⟩:Option Addr).map (·.add (l*aH.size)))=some ⟨g,Db,none⟩∧(m≠l→Db=off+l*aH.size):=by
   by_cases e:m=l
   ·exact ⟨off,by simp [e],fun h=>absurd e h⟩
   ·exact ⟨off+l*aH.size,by simp [e,lB],fun _=>rfl⟩
  obtain ⟨Db,S2,S3⟩:=S1;rw [S2];refine .aA g Db _ _ sz ((vs.take h).drop l) _ cM uO hlen ?_ ((gW.take h).drop l) (fun v aw=>ar v (ap0 (List.mem_of_mem_drop aw))) af af (fun aB=>by have:=al aB;omega) (fun b an=>absurd an (jn b));intro i u hu;by_cases e:m=l
  ·have:(vs.take h).drop l=[]:=by apply List.drop_eq_nil_of_le;rw [ae8];omega
   rw [this] at hu;simp [flat] at hu
  ·rw [S3 e]
   have mz:∀ v∈vs.take h,v.cells.size=aH.size:=by
    rcases cc with rfl|rfl
    ·have:vs=[]:=ai8 (by rw [fC];rfl)
     subst this;simp
    ·exact fun v aw=>ar v (ap0 aw)
   rw [SU mz l i uz] at hu;have:=cy _ _ (SV h hu);rw [← ao4] at this;exact this
end
def oB (l:List UInt8):List ag:=l.map fun b => .int .u8 b.toNat
theorem KX (l:List UInt8):(oB l).length=l.length:=by simp [oB]
theorem KY {w:World} {p:bV}:∀ (l:List UInt8),bH w p (l.map fun b=>Value.int .u8 b.toNat) (oB l)
 | [] => .nil
 | b::l => .cons _ _ _ _ (.int _ _) (KY l)
theorem KZ {w:World} {p:bV}:∀ {l:List UInt8} {vs:List Value},bH w p vs (oB l)→vs=l.map fun b=>Value.int .u8 b.toNat
  | [],_,h=>by cases h;rfl
  | b::l,_,h=>by
    cases h with|cons v _ vs _ U ad=>
    cases U;rw [KZ ad];rfl
section
variable {P:Program} {Γ:cA} (aP:bQ P Γ) {N:Nat} {B:fV} {ro:Option Nat} {env:Env} {s:ao} {a:Act} {w:World} {p:bV} (aI:dI N B ro env s a w p)
include aI aP
omit aI aP in
theorem K0:∀ (l:List UInt8),flat (l.map fun b=>Value.int .u8 b.toNat)=l.map fun b=>Value.int .u8 b.toNat:=by
 intro l
 induction l with
 | nil=>rfl
 | cons b l a1=>simp only [flat,ae3,ak0,Value.cells] at a1 ⊢;rw [a1];rfl
theorem S4 {o:Oper} {j4 d e:TypeId} {x:Operand} {is id aH:bO} {sz:Nat} {l:List UInt8} {own:bN} (ai:o.op = .convert j4 d x) (ar:Γ.get? j4=some is) (ax:Γ.get? d=some id) (kG:is.bF = .aA e) (nT:id.bF = .str)
  (he:Γ.get? e=some aH) (pw:aH.bF = .int .u8) (ab:aM env x=some (.aA sz (oB l) own)):gU P o a w p (.str l):=by
 obtain ⟨i1,d1,dE,a2,a3,-⟩:=aP.parts ar;obtain ⟨i2,d2,ho,cT,na,-⟩:=aP.parts ax;obtain ⟨i3,d3,cu,cL,dT,-⟩:=aP.parts he;have b2:d1 = .slice e:=by rw [kG] at a3;cases d1<;>simp [eB] at a3;rw [a3]
 have bU:d2 = .string:=by rw [nT] at na;cases d2<;>simp [eB] at na;rfl
 have e1:d3 = .int .u8:=by rw [pw] at dT;cases d3<;>simp [eB] at dT;rw [dT]
 subst b2;subst bU;subst e1;have eQ:∀ v,(convert j4 d (a.eval x)).run P w = .ok v w→(execOp a.eval o).run P w = .ok (.value v) w:=fun v h=>by
  unfold execOp;rw [ai];exact gV h
 have aD:=aI.aM ab;generalize aw:a.eval x=dR at aD eQ;generalize kh:oB l=Dc at aD;cases aD with
 | h4=>
  have aC:l=[]:=by cases l with|nil=>rfl|cons b l=>simp [oB] at kh
  subst aC;refine .same (val := .string ByteArray.empty) (eQ _ ?_) (.str _ _ C);rw [run_convert_bytes_string w j4 d e none 0 0 a2 cL cT];rfl
 | iE c7 _ _ _=>
  have aC:l=[]:=by cases l with|nil=>rfl|cons b l=>simp [oB] at kh
  subst aC;exact .same (val := .string ⟨#[]⟩) (eQ _ (run_convert_bytes_back w j4 d e c7 0 [] a2 cL cT (fun j aL=>by simp at aL))) (.str _ _ C)
 | aA g off n cap _ vs _ _ az aC aB gW cc hm aE cy cD=>
  subst kh;have eP:=KZ gW;subst eP;rw [KX] at aC;subst aC;refine .same (val := .string ⟨l.toArray⟩) (eQ _ ?_) (.str _ _ ba);refine run_convert_bytes_back w j4 d e ⟨g,off,none⟩ cap l a2 cL cT (fun j aL=>?_);rw [lB];refine (aB j _ ?_).2;rw [K0];simp [List.getElem?_eq_getElem aL]
theorem S5 {o:Oper} {j4 d e:TypeId} {x:Operand} {is id aH:bO} {l:List UInt8} (ai:o.op = .convert j4 d x) (ar:Γ.get? j4=some is) (ax:Γ.get? d=some id) (kG:is.bF = .str) (nT:id.bF = .aA e)
  (he:Γ.get? e=some aH) (pw:aH.bF = .int .u8) (ab:aM env x=some (.str l)) (Gs:l.length≤9223372036854775807):gU P o a w p (.aA 1 (oB l) .bb):=by
 obtain ⟨i1,d1,dE,a2,a3,-⟩:=aP.parts ar;obtain ⟨i2,d2,ho,cT,na,-⟩:=aP.parts ax;obtain ⟨i3,d3,cu,cL,dT,-⟩:=aP.parts he;have b2:d1 = .string:=by rw [kG] at a3;cases d1<;>simp [eB] at a3;rfl
 have bU:d2 = .slice e:=by rw [nT] at na;cases d2<;>simp [eB] at na;rw [na]
 have e1:d3 = .int .u8:=by rw [pw] at dT;cases d3<;>simp [eB] at dT;rw [dT]
 subst b2;subst bU;subst e1;have aD:=aI.aM ab;generalize aw:a.eval x=dR at aD;cases aD with
 | str nb _ lD=>
 have cc:nb.size=l.length:=by rw [← lD];simp
 have cS:=run_bytes_of_string (P:=P) w j4 d e nb a2 cT cL;generalize kE:grownCap w nb.size 0 e=cap at cS;have nP:nb.size≤cap:=by rw [← kE];simp [grownCap,Question.cut]
 have jB:(bytesRow nb cap).toList=(l.map fun b=>Value.int .u8 b.toNat)++t6 (cap-nb.size) (.int .u8 0):=by
  simp [bytesRow,← lD]
 generalize S6:Obj.cells (bytesRow nb cap) e ((bytesRow nb cap).size,(bytesRow nb cap).size+1)=db at cS;have hle:dg w p (w.drew.alloc db) (p.ei w.heap.size True):=dg.trans k3 (uF (w:=w.drew) (fun b o h=>aI.wf.lt b o h) db True);refine ⟨.slice (some ⟨w.heap.size,0,none⟩) nb.size cap,_,_,?_,?_,hle,fun aj hL=>⟨?_,?_⟩⟩
 ·unfold execOp
  rw [ai];simp only [aw];exact gV cS
 ·refine .aA w.heap.size 0 _ cap 1 (l.map fun b=>Value.int .u8 b.toNat) (oB l) .bb ba (by rw [KX,cc]) ?_ (KY l) (by simp [Value.cells]) af nP ba ba
  rw [K0];intro i v K1;refine ⟨.inr ⟨rfl,trivial⟩,?_⟩;have cY:(w.drew.alloc db).heap[w.heap.size]? = some db:=uE w.drew db;rw [← S6] at cY ⊢;simp only [World.cell?,cY,at7,af8,ah',af5];have:(bytesRow nb cap).toList[i]? = some v:=by
   rw [jB,ag0 (ae2.1 K1).1];exact K1
  simpa using this
 ·exact Kept.trans (s₁:=aj) (w₁:=w.drew) (p₁:=p) (g8 _) v' (CO (w:=w.drew) db True)
 ·exact z' (w:=w.drew) (yp hL) db True
end
inductive l2 (Γ:cA) (o:Oper) (env:Env):ag→Prop
 | a {v:ag} (h:p' Γ o env=some v):l2 Γ o env v
 | x {v:ag} (h:wA Γ o env=some v):l2 Γ o env v
 | cat {t yt:TypeId} {x y:Operand} {u v:List UInt8} (ai:o.op = .binOp .add t x y yt) (ab:aM env x=some (.str u)) (ay:aM env y=some (.str v)) (aC:u.length+v.length≤9223372036854775807):l2 Γ o env (.str (u++v))
 | toStr {j4 d e:TypeId} {x:Operand} {is id aH:bO} {sz:Nat} {l:List UInt8} {own:bN} (ai:o.op = .convert j4 d x) (ar:Γ.get? j4=some is) (ax:Γ.get? d=some id) (kG:is.bF = .aA e) (nT:id.bF = .str)
   (he:Γ.get? e=some aH) (pw:aH.bF = .int .u8) (ab:aM env x=some (.aA sz (oB l) own)):l2 Γ o env (.str l)
 | Dd {j4 d e:TypeId} {x:Operand} {is id aH:bO} {l:List UInt8} (ai:o.op = .convert j4 d x) (ar:Γ.get? j4=some is) (ax:Γ.get? d=some id) (kG:is.bF = .str) (nT:id.bF = .aA e)
   (he:Γ.get? e=some aH) (pw:aH.bF = .int .u8) (ab:aM env x=some (.str l)) (Gs:l.length≤9223372036854775807):l2 Γ o env (.aA 1 (oB l) .bb)
 | idx {t e:TypeId} {x y:Operand} {it aH:bO} {sz:Nat} {xs:List ag} {own:bN} {k:IntKind} {i:Int} (j:Nat) {v:ag} {cs:List ag} (ai:o.op = .indexAddr t x y)
   (aN:Γ.get? t=some it) (bt:it.bF = .aA e) (bJ:Γ.get? e=some aH) (ab:aM env x=some (.aA sz xs own)) (cc:sz=aH.size) (ay:aM env y=some (.int k i)) (eU:i=(j:Int)) (aL:xs[j]? = some v)
   (aB:cellsOf v=some cs):l2 Γ o env (.bw cs 0)
 | As {t:TypeId} {x y:Operand} {it:bO} {l:List UInt8} {k:IntKind} {i:Int} (j:Nat) {b:UInt8} (ai:o.op = .index t x y)
   (aN:Γ.get? t=some it) (bt:it.bF = .str) (ab:aM env x=some (.str l)) (ay:aM env y=some (.int k i)) (eU:i=(j:Int)) (aL:l[j]? = some b):l2 Γ o env (.int .u8 b.toNat)
 | slice {t e:TypeId} {x:Operand} {gF aR jA:Option Operand} {it aH:bO} {sz:Nat} {xs:List ag} {own cM:bN} (l h:Nat) (ai:o.op = .slice t x gF aR jA)
   (aN:Γ.get? t=some it) (bt:it.bF = .aA e) (bJ:Γ.get? e=some aH) (ab:aM env x=some (.aA sz xs own)) (cc:xs=[]∨sz=aH.size)
   (iT:(gF=none∧l=0)∨∃ y k,gF=some y∧aM env y=some (.int k (l:Int))) (rb:(aR=none∧jA=none∧h=xs.length)∨∃ y k,aR=some y∧aM env y=some (.int k (h:Int)))
   (nQ:(jA=none∧cM = .bb)∨(∃ y k,jA=some y∧aM env y=some (.int k (h:Int))∧cM = .clip)) (aC:l≤h) (cY:h≤xs.length):l2 Γ o env (.aA sz ((xs.take h).drop l) cM)
theorem l2.ok {P:Program} {Γ:cA} (aP:bQ P Γ) {N:Nat} {B:fV} {ro:Option Nat} {env:Env} {s:ao} {a:Act} {w:World} {p:bV} (aI:dI N B ro env s a w p) {o:Oper} {v:ag} (h:l2 Γ o env v):gU P o a w p v:=by
 cases h with
 | a h=>exact KJ aP aI h
 | x h=>exact SO aP aI h
 | cat ai ab ay aC=>exact SQ aI ai ab ay aC
 | toStr ai ar ax kG nT he pw ab=>exact S4 aP aI ai ar ax kG nT he pw ab
 | Dd ai ar ax kG nT he pw ab aC=>exact S5 aP aI ai ar ax kG nT he pw ab aC
 | idx j ai aN bt bJ ab cc ay eU aL aB=>exact SR aP aI ai aN bt bJ ab cc ay eU aL aB
 | As j ai aN bt ab ay eU aL=>exact SS aP aI ai aN bt ab ay eU aL
 | slice l h ai aN bt bJ ab cc iT rb nQ aC cY=>exact SW aP aI ai aN bt bJ ab cc iT rb nQ aC cY
theorem l2.gJ {Γ:cA} {env:Env} {o:Oper} {v:ag} (h:l2 Γ o env v):Go.Proofs.YtnafpeohfbglmaaGreat.gJ o=true:=by
 cases h with
 | a h=>exact KK h
 | x h=>exact SP h
 | cat ai=>simp [Go.Proofs.YtnafpeohfbglmaaGreat.gJ,ai]
 | toStr ai=>simp [Go.Proofs.YtnafpeohfbglmaaGreat.gJ,ai]
 | Dd ai=>simp [Go.Proofs.YtnafpeohfbglmaaGreat.gJ,ai]
 | idx j ai=>simp [Go.Proofs.YtnafpeohfbglmaaGreat.gJ,ai]
 | As j ai=>simp [Go.Proofs.YtnafpeohfbglmaaGreat.gJ,ai]
 | slice l h ai=>simp [Go.Proofs.YtnafpeohfbglmaaGreat.gJ,ai]
theorem aZ.pure {P:Program} {Γ:cA} (aP:bQ P Γ) {N:Nat} {env:Env} {s:ao} {o:Oper} {v:ag} (h:l2 Γ o env v):aZ P N o env s (fun x aj=>x=v∧aj=s) (fun _ _=>False):=
 aZ.m0 h.gJ fun _ _ _ _ _ aI=>h.ok aP aI
def sb:Nat→List ag→Env
 | _,[]=>[]
 | k,v::vs=>(k,v)::sb (k+1) vs
def Au (Γ:cA) (env:Env) (s:ao):ResultVar→Option ag
  | .tmp t=>env.get? t
  | .cell a t=>match env.get? a,Γ.get? t with
    | some (.ptr b o),some i=>match s b with
      | some (.box _ cs)=>hV i cs o
      | _=>none
    | some (.bw cs o),some i=>hV i cs o
    | _,_=>none
def wB (Γ:cA) (env:Env) (s:ao):List ResultVar→Option (List ag)
  | []=>some []
  | r::rs=>match Au Γ env s r with
    | some v=>match wB Γ env s rs with
      | some vs=>some (v::vs)
      | none=>none
    | none=>none
def oC (Γ:cA) (env:Env) (s:ao) (rs:List ResultVar):Option ag:=
 match wB Γ env s rs with
 | some [v]=>some v
 | some vs=>some (.cw vs)
 | none=>none
section
variable {P:Program} {Γ:cA}
theorem S7 (aP:bQ P Γ) {N:Nat} {B:fV} {ro:Option Nat} {env:Env} {s:ao} {a:Act} {w w':World} {p:bV} (aI:dI N B ro env s a w p)
  (hw:∀ b o v,w.cell? ⟨b,o,none⟩=some v→w'.cell? ⟨b,o,none⟩=some v) (jx:∀ v x,Rel w p v x→Rel w' p v x) {r:ResultVar} {v:ag} (h:Au Γ env s r=some v) :
  ∃ val,((match r with
   | .tmp t=>pure (a.tmps.getD t undef)
   | .cell b t=>do loadVar t (← asAddr (a.tmps.getD b undef))):Sem Value).run P w' = .ok val w'∧Rel w' p val v:=by
 cases r with
 | tmp t=>exact ⟨_,rfl,jx _ _ (aI.env t v h)⟩
 | cell b t=>
  simp only [Au] at h;split at h
  ·rename_i aY o i an aR
   split at h
   ·rename_i T cs ar
    have aD:=aI.env b _ an;generalize aw:a.tmps.getD b undef=Ap at aD;cases aD;obtain ⟨vs,U,ad,al⟩:=aI.wf.obj _ _ ar;have gW:bH w' p vs.toList cs:=by
     have:∀ us xs,bH w p us xs→bH w' p us xs:=by
      intro us
      induction us with
      | nil=>intro xs h;cases h;exact .nil
      | cons u us a1=>intro xs h;cases h with|cons _ x _ xs ab aN=>exact .cons _ _ _ _ (jx _ _ ab) (a1 _ aN)
     exact this _ _ ad
    obtain ⟨val,cS,eW⟩:=Ad aP aR (b:=aY) (base:=0) (vs:=vs.toList) (w:=w') (fun j u hu=>by
     rw [af5];refine hw _ _ _ ?_;rw [jO U];simpa using hu) gW h
    rw [af5] at cS;exact ⟨val,by simp only [aw,asAddr,ac',ae6,i5,cS],eW⟩
   ·cases h
  ·rename_i cs o i an aR
   have aD:=jx _ _ (aI.env b _ an);generalize aw:a.tmps.getD b undef=Ap at aD;cases aD with
   | bw nb base uI _ vs _ lY aB gW=>
   subst lY;obtain ⟨val,cS,eW⟩:=Ad aP aR (b:=nb) (base:=base) (fun j u hu=>(aB j u hu).2) gW h;exact ⟨val,by simp only [aw,asAddr,ac',ae6,i5,cS],eW⟩
  ·cases h
theorem S8 (aP:bQ P Γ) {N:Nat} {B:fV} {ro:Option Nat} {env:Env} {s:ao} {a:Act} {w w':World} {p:bV} (aI:dI N B ro env s a w p)
  (hw:∀ b o v,w.cell? ⟨b,o,none⟩=some v→w'.cell? ⟨b,o,none⟩=some v) (jx:∀ v x,Rel w p v x→Rel w' p v x):∀ {rs:List ResultVar} {xs:List ag} (_:wB Γ env s rs=some xs),
  ∃ nU,(rs.mapM fun r=>((match r with
   | .tmp t=>pure (a.tmps.getD t undef)
   | .cell b t=>do loadVar t (← asAddr (a.tmps.getD b undef))):Sem Value)).run P w' = .ok nU w'∧bH w' p nU xs:=by
 intro rs
 induction rs with
 | nil=>intro xs h;cases h;exact ⟨[],by simp,.nil⟩
 | cons r rs a1=>
  intro xs h;simp only [wB] at h;split at h
  ·rename_i v aw
   split at h
   ·rename_i vs eP
    cases h;obtain ⟨val,U,ad⟩:=S7 aP aI hw jx aw;obtain ⟨nU,al,bf⟩:=a1 eP;exact ⟨val::nU,by simp only [ay',ac',U,i5,al,ae6],.cons _ _ _ _ ad bf⟩
   ·cases h
  ·cases h
theorem S9 (aP:bQ P Γ) {N:Nat} {B:fV} {ro:Option Nat} {env:Env} {s:ao} {a:Act} {w w':World} {p:bV} (aI:dI N B ro env s a w p)
  (hw:∀ b o v,w.cell? ⟨b,o,none⟩=some v→w'.cell? ⟨b,o,none⟩=some v) (jx:∀ v x,Rel w p v x→Rel w' p v x) {fn:Func} {v:ag} (h:oC Γ env s fn.results.toList=some v) :
  ∃ val,(results fn a.tmps).run P w' = .ok val w'∧Rel w' p val v:=by
 unfold oC at h;have key:∀ xs,wB Γ env s fn.results.toList=some xs→∃ nU,(results fn a.tmps).run P w' = .ok (if h:nU.length=1 then nU[0] else .tuple nU.toArray) w'∧bH w' p nU xs:=by
  intro xs c';obtain ⟨nU,U,ad⟩:=S8 aP aI hw jx c';refine ⟨nU,?_,ad⟩;unfold results;rw [Array.mapM_eq_mapM_toList];simp only [ac',Sem.run_map];erw [U];simp only [i5,ae6];by_cases aC:nU.length=1
  ·simp [aC]
  ·simp [aC]
 split at h
 ·rename_i ff aw
  cases h;obtain ⟨nU,U,ad⟩:=key _ aw;cases ad with
  | cons u _ us _ hu aN=>cases aN;exact ⟨u,by simpa using U,hu⟩
 ·rename_i vs cJ aw
  cases h;obtain ⟨nU,U,ad⟩:=key _ aw;have aC:nU.length≠1:=by
   rw [ad.length];intro aC;obtain ⟨x,ab⟩:=List.length_eq_one_iff.1 aC;exact cJ x ab
  rw [dif_neg aC] at U;exact ⟨_,U,.cw _ _ s8⟩
 ·cases h
theorem Gt {s:ao} {p:bV}:∀ (ds:List Nat) (w:World),dx w p s→(∀ d∈ds,∃ x,w.heap[d]? = some (.deferred x)) →
    dg w p (hA w ds) p∧dx (hA w ds) p s∧(∀ b,b∉ds→(hA w ds).heap[b]? = w.heap[b]?)∧(∀ b o v,w.cell? ⟨b,o,none⟩=some v→(hA w ds).cell? ⟨b,o,none⟩=some v):=by
  intro ds
  induction ds with
  | nil=>intro w cf _;exact ⟨.refl w p,cf,fun _ _=>rfl,fun _ _ _ h=>h⟩
  | cons d ds a1=>
    intro w cf ax;obtain ⟨x,ab⟩:=ax d (i6 ..);have au:d<w.heap.size:=(i9.1 ab).1
    let w₁:World:={ w with heap:=w.heap.setIfInBounds d (.deferred none) }
    have pv:w₁.heap[d]? = some (.deferred none):=by simp [w₁,ag5,au]
    have h5:∀ k,k≠d→w₁.heap[k]? = w.heap[k]? := fun k aE=>by
      show (w.heap.setIfInBounds d (.deferred none))[k]? = _;rw [ag5,f0 (fun e=>aE e.symm)]
    have jN:∀ b o,w₁.cell? ⟨b,o,none⟩=w.cell? ⟨b,o,none⟩:=fun b o=>by
      by_cases e:b=d
      · subst e;simp only [World.cell?,pv,ab]
      · exact yo (h5 b e)
    have hle:dg w p w₁ p:=⟨rfl,rfl,rfl,by simp [w₁],fun _ _ h=>h,fun b o _=>jN b o,fun b y ay=>by
      by_cases e:b=d
      · subst e;simp [World.k1,ab] at ay
      · rw [yn (h5 b e)];exact ay⟩
    have S':dx w₁ p s:=by
      refine ⟨fun b o an=>?_,fun b o aF=>by simpa [w₁] using cf.lt b o aF⟩;have ai:=cf.obj b o an;have cJ:b≠d:=by
        intro e;subst e;cases o with
        | box t c=>obtain ⟨us,g1,-⟩:=ai;rw [ab] at g1;cases g1
        | row t sz n=>obtain ⟨us,g1,-⟩:=ai;rw [ab] at g1;cases g1
        | map es=>obtain ⟨us,c,g1,-⟩:=ai;rw [ab] at g1;cases g1
        | lz es it l c=>obtain ⟨_,_,_,g1,-⟩:=ai;rw [ab] at g1;cases g1
        | tick m=>obtain ⟨_,_,_,g1⟩:=ai;rw [ab] at g1;cases g1
        | loop r env=>have cD:=ai.1;rw [ab] at cD;cases cD
      have cY:=h5 b cJ;cases o with
      | box t c=>obtain ⟨us,g1,g2,g3⟩:=ai;exact ⟨us,cY.trans g1,g2.mono hle,g3⟩
      | row t sz n=>obtain ⟨cur,g1,g2,g3,g4⟩:=ai;exact ⟨cur,cY.trans g1,g2,g3,g4⟩
      | map es=>obtain ⟨cQ,c,g1,g2,g3⟩:=ai;exact ⟨cQ,c,cY.trans g1,⟨g2.1.mono hle,g2.2.mono hle⟩,g3⟩
      | lz es it l c=>exact ai.q1 hle cY (h5 it (ai.z8 ab ba))
      | tick m=>obtain ⟨dE,a2,a3,g1⟩:=ai;exact ⟨dE,a2,a3,cY.trans g1⟩
      | loop r env=>exact ⟨cY.trans ai.1,fun t v h=>(ai.2 t v h).mono hle⟩
    obtain ⟨i1,i2,i3,i4⟩:=a1 w₁ S' (fun c9 cp=>by
      by_cases e:c9=d
      · subst e;exact ⟨none,pv⟩
      · obtain ⟨y,ay⟩:=ax c9 (i0 _ cp);exact ⟨y,(h5 c9 e).trans ay⟩)
    refine ⟨hle.trans i1,i2,fun b an=>?_,fun b o v aw=>i4 b o v ((jN b o).trans aw)⟩;have U:b≠d:=fun e=>an (e ▸ i6 ..)
    have ad:b∉ds:=fun e=>an (i0 _ e)
    exact (i3 b ad).trans (h5 b U)
def Fin (Γ:cA) (rs:List ResultVar) (R:eC→ao→Prop):b9→Env→ao→Prop
 | .normal,env,s | .ret,env,s=>∃ r r' aj,oC Γ env s rs=some r∧aQ r r'∧ao.Sub aj s∧R (.ret r') aj
 | .panic v,_,s=>∃ ff aj,aQ v ff∧ao.Sub aj s∧R (.panic ff) aj
 | .exit _,_,_=>False
theorem Ta {w:World} {p:bV}:∀ (k:Nat) (args:List ag) (vs pre:List Value),pre.length=k→bH w p vs args→∀ t v,(sb k args).get? t=some v→∃ u,(pre++vs)[t]? = some u∧Rel w p u v:=by
 intro k args
 induction args generalizing k with
 | nil=>intro vs pre _ _ t v h;simp [sb,Env.get?] at h
 | cons x xs a1=>
  intro vs pre aE aD t v h;cases aD with
  | cons u _ us _ hu aN=>
  simp only [sb,Env.get?] at h;split at h
  ·rename_i he
   have:=ae0 he;subst this;cases h;exact ⟨u,by rw [af4 af];simp [aE],hu⟩
  ·obtain ⟨j5,U,ad⟩:=a1 (k+1) us (pre++[u]) (by simp [aE]) aN t v h
   exact ⟨j5,by simpa using U,ad⟩
theorem Kept.sub {s aj eO:ao} {w w':World} {p bj:bV} (h:Kept s aj w p w' bj) (ar:ao.Sub eO aj):Kept s eO w p w' bj :=
 ⟨h.heap,fun b an az=>ar.none (h.k2 b an az),h.ly⟩
theorem hp.yz (aP:bQ P Γ) {f:FuncId} {fn:Func} {c:Code} {args:List ag} {s:ao} {R:eC→ao→Prop} (aB:ts P f) (a7:P.funcs[f]? = some fn) (an:fn.body=some c)
  (aU:ao5 args.length fn.ntmps=true) (h:ae P fn.ntmps c (Fin Γ fn.results.toList R) (sb 0 args) s):hp P f args s R:=by
 refine ⟨aB,fun w p vs cf eP=>RQ a7 an fun b r7 e4=>?_⟩;have hle:=an4 aU;have aC:=eP.length;have cc:(vs.toArray++al5 (fn.ntmps-vs.toArray.size) undef).size=fn.ntmps:=by simp;omega
 have aI:dI fn.ntmps (w.heap.size,[]) b.roundOf (sb 0 args) s { tmps:=vs.toArray++al5 (fn.ntmps-vs.toArray.size) undef,defers:=[] } w p:=by
  refine ⟨cc,fun t v aw=>?_,cf,⟨[],rfl,by simp,by simp⟩,fun l aC=>(by rw [r7] at aC;cases aC),g8 _⟩;obtain ⟨u,hu,aD⟩:=Ta 0 args vs [] rfl eP t v aw;simp only [d8] at hu;have au:=(ae2.1 hu).1;have:(vs.toArray++al5 (fn.ntmps-vs.toArray.size) undef).getD t undef=u:=by
   rw [ag1,at0 (by simpa using au)];simp [hu]
  rw [this];exact aD
 refine mq (h b (w.heap.size,[]) _ w p e4 aI) ?_;rintro e c7 w' ⟨x,e0,aj,bj,ab,br,hW,Av,aE⟩;obtain ⟨ds,tu,e7,eI⟩:=hW.defs;rw [List.append_nil] at tu;obtain ⟨b2,bU,e1,oy⟩:=Gt ds w' hW.wf (fun d ax=>⟨_,(eI d ax).2.1⟩);have bk:Kept s aj w p (hA w' ds) bj:=⟨fun aY dO az=>(e1 aY (fun hm=>by have:=(eI aY hm).1;omega)).trans (aE.heap aY dO az),aE.k2,aE.ly⟩;have bM:dg w p (hA w' ds) bj:=Av.trans b2;have fin:(∃ r r' eO,oC Γ e0 aj fn.results.toList=some r∧aQ r r'∧ao.Sub eO aj∧R (.ret r') eO) →
   ∃ ds,c7.defers=marksOf ds∧ds.Nodup∧(∀ d∈ds,w'.heap[d]? = some (.deferred (some [])))∧∃ v,(results fn c7.tmps).run P (hA w' ds) = .ok v (hA w' ds)∧wz s w p R (.returned v) (hA w' ds):=by
  rintro ⟨r,r',eO,aD,yA,hU,dM⟩;obtain ⟨val,cS,eW⟩:=S9 aP hW oy (fun v x h=>h.mono b2) aD;exact ⟨ds,tu,e7,fun d ax=>(eI d ax).2.1,val,cS,.ret r',eO,bj,yA _ _ _ eW,dM,bM,bk.sub hU,bU.sub hU⟩
 cases ab with
 | normal=>exact fin br
 | ret=>exact fin br
 | exit id=>exact br.elim
 | panic v x dJ ki aw=>
  obtain ⟨ff,eO,yA,hU,dM⟩:=br;exact ⟨ds,tu,e7,fun d ax=>(eI d ax).2.1,.panic ff,eO,bj,⟨v,ki,yA _ _ _ (aw.mono b2)⟩,dM,bM,bk.sub hU,bU.sub hU⟩
end
def aa (P:Program) (N:Nat) (ops:Array Oper) (l:List Oper) (Q:b9→Env→ao→Prop) (env:Env) (s:ao):Prop:=
 ∀ k,(∀ j x,l[j]? = some x→ops[k+j]? = some x)→fN P N ops (ay8 k l.length) Q env s
section
variable {P:Program} {Γ:cA} {N:Nat} {ops:Array Oper} {Q:b9→Env→ao→Prop} {env:Env} {s:ao} {l:List Oper} {o:Oper} {d:Nat}
theorem ae.cF {id:Nat} {l:List Oper} (h:aa P N l.toArray l Q env s):ae P N (.region id l.toArray false) Q env s:=by
 refine ae.region ?_;have:=h 0 ba;rw [List.range_eq_range'];simpa using this
theorem aa.nil (h:Q .normal env s):aa P N ops [] Q env s:=fun _ _=>fN.nil h
theorem aa.cons (h:∀ k,ops[k]? = some o→aa P N ops l Q env s∨True→(∀ j x,l[j]? = some x→ops[k+1+j]? = some x)→fN P N ops (k::ay8 (k+1) l.length) Q env s):aa P N ops (o::l) Q env s:=by
 intro k aE;have bq:ops[k]? = some o:=aE 0 o C;have aN:∀ j x,l[j]? = some x→ops[k+1+j]? = some x:=fun j x ab=>by have:=aE (j+1) x vU;simpa [ao4,ar0 1 j] using this
 rw [g9,ax8];exact h k bq (.inr trivial) aN
theorem aa.op {K X:ag→ao→Prop} (av:guardOf ops env o=some true) (ax:o.dst=some d) (aU:t8 d N=true) (h:aZ P N o env s K X)
  (aE:∀ x aj,K x aj→aa P N ops l Q ((d,x)::env) aj) (ab:∀ x aj,X x aj→Q (.panic x) env aj):aa P N ops (o::l) Q env s:=
 aa.cons fun k bq _ aN=>fN.op bq av ax aU h (fun x aj bk=>aE x aj bk (k+1) aN) ab
theorem aa.v8 {K X:ag→ao→Prop} (av:guardOf ops env o=some true) (ax:o.dst=none) (h:aZ P N o env s K X)
  (aE:∀ x aj,K x aj→aa P N ops l Q env aj) (ab:∀ x aj,X x aj→Q (.panic x) env aj):aa P N ops (o::l) Q env s:=
 aa.cons fun k bq _ aN=>fN.v8 bq av ax h (fun x aj bk=>aE x aj bk (k+1) aN) ab
theorem aa.skip (av:guardOf ops env o=some false) (ax:o.dst=some d) (aU:t8 d N=true) (h:aa P N ops l Q ((d,.cw [])::env) s):aa P N ops (o::l) Q env s:=
 aa.cons fun k bq _ aN=>fN.skip bq av ax aU (h (k+1) aN)
theorem aa.step (aP:bQ P Γ) {v:ag} (av:guardOf ops env o=some true) (ax:o.dst=some d) (aU:t8 d N=true) (aw:p' Γ o env=some v) (h:aa P N ops l Q ((d,v)::env) s) :
  aa P N ops (o::l) Q env s:=
 aa.op av ax aU (aZ.p' aP aw) (fun x aj ⟨U,ad⟩=>by subst U;subst ad;exact h) (fun _ _ h=>h.elim)
theorem aa.pure (aP:bQ P Γ) {v:ag} (av:guardOf ops env o=some true) (ax:o.dst=some d) (aU:t8 d N=true) (aw:l2 Γ o env v) (h:aa P N ops l Q ((d,v)::env) s) :
  aa P N ops (o::l) Q env s:=
 aa.op av ax aU (aZ.pure aP aw) (fun x aj ⟨U,ad⟩=>by subst U;subst ad;exact h) (fun _ _ h=>h.elim)
theorem aa.iG (aP:bQ P Γ) {v:ag} (av:guardOf ops env o=some true) (ax:o.dst=some d) (aU:t8 d N=true) (aw:wA Γ o env=some v) (h:aa P N ops l Q ((d,v)::env) s) :
  aa P N ops (o::l) Q env s:=aa.pure aP av ax aU (.x aw) h
theorem aa.call {f:FuncId} {as:Array Operand} {da:Array TypeId} {xs:List ag} {R:eC→ao→Prop} (av:guardOf ops env o=some true) (ax:o.dst=some d) (aU:t8 d N=true)
  (b3:o.op = .call { callee := .value (.func f),args:=as,argTypes:=da }) (a6:fX env as.toList=some xs) (h:hp P f xs s R)
  (aE:∀ x aj,R (.ret x) aj→aa P N ops l Q ((d,x)::env) aj) (ab:∀ x aj,R (.panic x) aj→Q (.panic x) env aj):aa P N ops (o::l) Q env s:=
 aa.op av ax aU (aZ.call b3 (fv := .func f [] []) C a6 (hY.fx e2)) aE ab
theorem aa.K2 {f:FuncId} {as:Array Operand} {da:Array TypeId} {xs:List ag} {v:ag} (av:guardOf ops env o=some true) (ax:o.dst=some d) (aU:t8 d N=true)
  (b3:o.op = .call { callee := .value (.func f),args:=as,argTypes:=da }) (a6:fX env as.toList=some xs) (h:hp P f xs s (fun out aj=>out = .ret v∧aj=s))
  (aE:aa P N ops l Q ((d,v)::env) s):aa P N ops (o::l) Q env s:=
 aa.call av ax aU b3 a6 h (fun x aj ⟨U,ad⟩=>by cases U;subst ad;exact aE) (fun x aj ⟨U,_⟩=>by cases U)
theorem aa.Gq {g:Operand} {fv:ag} {as:Array Operand} {da:Array TypeId} {xs:List ag} {R:eC→ao→Prop} (av:guardOf ops env o=some true) (ax:o.dst=some d) (aU:t8 d N=true)
  (b3:o.op = .call { callee := .value g,args:=as,argTypes:=da }) (aw:aM env g=some fv) (a6:fX env as.toList=some xs) (h:hY P fv xs s R)
  (aE:∀ x aj,R (.ret x) aj→aa P N ops l Q ((d,x)::env) aj) (ab:∀ x aj,R (.panic x) aj→Q (.panic x) env aj):aa P N ops (o::l) Q env s:=
 aa.op av ax aU (aZ.call b3 aw a6 h) aE ab
theorem aa.idx (aP:bQ P Γ) {t e:TypeId} {x y:Operand} {it aH:bO} {sz:Nat} {xs:List ag} {own:bN} {k:IntKind} {i:Int} {v:ag} {cs:List ag} (j:Nat) (av:guardOf ops env o=some true) (ax:o.dst=some d)
  (aU:t8 d N=true) (ai:o.op = .indexAddr t x y) (aN:Γ.get? t=some it) (bt:it.bF = .aA e) (bJ:Γ.get? e=some aH) (ab:aM env x=some (.aA sz xs own)) (cc:sz=aH.size) (ay:aM env y=some (.int k i))
  (eU:i=(j:Int)) (aL:xs[j]? = some v) (aB:cellsOf v=some cs) (h:aa P N ops l Q ((d,.bw cs 0)::env) s):aa P N ops (o::l) Q env s:=
 aa.pure aP av ax aU (.idx j ai aN bt bJ ab cc ay eU aL aB) h
theorem aa.As (aP:bQ P Γ) {t:TypeId} {x y:Operand} {it:bO} {cs:List UInt8} {k:IntKind} {i:Int} {b:UInt8} (j:Nat) (av:guardOf ops env o=some true) (ax:o.dst=some d)
  (aU:t8 d N=true) (ai:o.op = .index t x y) (aN:Γ.get? t=some it) (bt:it.bF = .str) (ab:aM env x=some (.str cs)) (ay:aM env y=some (.int k i))
  (eU:i=(j:Int)) (aL:cs[j]? = some b) (h:aa P N ops l Q ((d,.int .u8 b.toNat)::env) s):aa P N ops (o::l) Q env s:=
 aa.pure aP av ax aU (.As j ai aN bt ab ay eU aL) h
theorem aa.cat (aP:bQ P Γ) {t yt:TypeId} {x y:Operand} {u v:List UInt8} (av:guardOf ops env o=some true) (ax:o.dst=some d) (aU:t8 d N=true) (ai:o.op = .binOp .add t x y yt)
  (ab:aM env x=some (.str u)) (ay:aM env y=some (.str v)) (aC:u.length+v.length≤9223372036854775807) (h:aa P N ops l Q ((d,.str (u++v))::env) s):aa P N ops (o::l) Q env s:=
 aa.pure aP av ax aU (.cat ai ab ay aC) h
theorem aa.toStr (aP:bQ P Γ) {j4 Aw e:TypeId} {x:Operand} {is id aH:bO} {sz:Nat} {u:List UInt8} {own:bN} (av:guardOf ops env o=some true) (ax:o.dst=some d) (aU:t8 d N=true) (ai:o.op = .convert j4 Aw x)
  (ar:Γ.get? j4=some is) (Gu:Γ.get? Aw=some id) (kG:is.bF = .aA e) (nT:id.bF = .str) (he:Γ.get? e=some aH) (pw:aH.bF = .int .u8) (ab:aM env x=some (.aA sz (oB u) own))
  (h:aa P N ops l Q ((d,.str u)::env) s):aa P N ops (o::l) Q env s:=aa.pure aP av ax aU (.toStr ai ar Gu kG nT he pw ab) h
theorem aa.Dd (aP:bQ P Γ) {j4 Aw e:TypeId} {x:Operand} {is id aH:bO} {u:List UInt8} (av:guardOf ops env o=some true) (ax:o.dst=some d) (aU:t8 d N=true) (ai:o.op = .convert j4 Aw x)
  (ar:Γ.get? j4=some is) (Gu:Γ.get? Aw=some id) (kG:is.bF = .str) (nT:id.bF = .aA e) (he:Γ.get? e=some aH) (pw:aH.bF = .int .u8) (ab:aM env x=some (.str u)) (Gs:u.length≤9223372036854775807)
  (h:aa P N ops l Q ((d,.aA 1 (oB u) .bb)::env) s):aa P N ops (o::l) Q env s:=aa.pure aP av ax aU (.Dd ai ar Gu kG nT he pw ab Gs) h
theorem aa.slice (aP:bQ P Γ) {t e:TypeId} {x:Operand} {gF aR jA:Option Operand} {it aH:bO} {sz:Nat} {xs:List ag} {own cM:bN} (a b:Nat) (av:guardOf ops env o=some true) (ax:o.dst=some d)
  (aU:t8 d N=true) (ai:o.op = .slice t x gF aR jA)
  (aN:Γ.get? t=some it) (bt:it.bF = .aA e) (bJ:Γ.get? e=some aH) (ab:aM env x=some (.aA sz xs own)) (cc:xs=[]∨sz=aH.size)
  (iT:(gF=none∧a=0)∨∃ y k,gF=some y∧aM env y=some (.int k (a:Int))) (rb:(aR=none∧jA=none∧b=xs.length)∨∃ y k,aR=some y∧aM env y=some (.int k (b:Int)))
  (nQ:(jA=none∧cM = .bb)∨(∃ y k,jA=some y∧aM env y=some (.int k (b:Int))∧cM = .clip)) (aC:a≤b) (cY:b≤xs.length) (h:aa P N ops l Q ((d,.aA sz ((xs.take b).drop a) cM)::env) s):aa P N ops (o::l) Q env s:=
 aa.pure aP av ax aU (.slice a b ai aN bt bJ ab cc iT rb nQ aC cY) h
theorem aa.freeze (t b:Nat) {T:TypeId} {cs:List ag} (aN:env.get? t=some (.ptr b 0)) (ar:s b=some (.box T cs)) (h:aa P N ops l Q ((t,.bw cs 0)::env) (s.del b)):aa P N ops l Q env s:=
 fun k aE=>fN.freeze t b aN ar (h k aE)
theorem b0 {next:Env→ao→Prop} (h:next env s):b9.andThen next Q .normal env s:=h
end
def re (ops:Array Oper) (i j:Nat):Prop:=∃ o e,ops[i]? = some o∧e∈o.after∧Region.binds .any e=true∧e.on=j
inductive lE (ops:Array Oper):Nat→Nat→Prop
 | dep {i j:Nat} (h:re ops i j):lE ops i j
 | trans {i j k:Nat} (h:re ops i j) (t:lE ops j k):lE ops i k
def wC (ops:Array Oper) (D:Nat→Bool):Prop:=∀ i j,D i=true→re ops i j→D j=true
theorem wC.rf {ops:Array Oper} {D:Nat→Bool} (h:wC ops D) {i j:Nat} (aR:D i=true) (a6:lE ops i j):D j=true:=by
 induction a6 with
 | dep ax=>exact h _ _ aR ax
 | trans ax _ a1=>exact a1 (h _ _ aR ax)
def ei (D:Nat→Bool) (i:Nat):Nat→Bool:=fun j=>if j=i then true else D j
theorem nc (D:Nat→Bool) (i:Nat):ei D i i=true:=by simp [ei]
theorem j6 (D:Nat→Bool) {i j:Nat} (h:j≠i):ei D i j=D j:=by simp [ei,h]
theorem wD {D:Nat→Bool} {i j:Nat} (h:D j=true):ei D i j=true:=by unfold ei;split<;>simp_all
def hq (ops:Array Oper) (D:Nat→Bool) (i:Nat):Prop:=i<ops.size∧D i=false∧∀ j,re ops i j→D j=true
theorem wC.ei {ops:Array Oper} {D:Nat→Bool} (h:wC ops D) {i:Nat} (aD:hq ops D i):wC ops (ei D i):=by
 intro a b a6 ax;by_cases e:a=i
 ·subst e;exact wD (aD.2.2 b ax)
 ·rw [j6 _ e] at a6;exact wD (h a b a6 ax)
def looks (ops:Array Oper) (o:Oper):List Tmp:=
  (match o.guard with
   | some (g,_)=>match (ops[g]?).bind (·.dst) with
     | some d=>[d]
     | none=>[]
   | none=>[])++o.op.operands.toList.filterMap fun | .tmp t=>some t|_=>none
def iH (env:Env):List Tmp→Env
  | []=>[]
  | t::gw=>match env.get? t with
    | some v=>(t,v)::iH env gw
    | none=>iH env gw
abbrev b4 (l:List Oper) (env:Env) (o:Oper):Env:=iH env (looks l.toArray o)
abbrev c6 (l:List Oper) (env:Env) (o:Oper):Prop:=guardOf l.toArray (iH env (looks l.toArray o)) o=some true
theorem K3 {env:Env} {gw:List Tmp} {t:Tmp} {v:ag} (h:(iH env gw).get? t=some v):env.get? t=some v∧t∈gw:=by
 induction gw with
 | nil=>simp [iH,Env.get?] at h
 | cons u gw a1=>
  simp only [iH] at h;split at h
  ·rename_i x ab
   simp only [Env.get?] at h;split at h
   ·rename_i he
    have:=ae0 he;subst this;cases h;exact ⟨ab,i6 ..⟩
   ·exact ⟨(a1 h).1,i0 _ (a1 h).2⟩
  ·exact ⟨(a1 h).1,i0 _ (a1 h).2⟩
def Still (J:ao→Prop) (P:Program) (Γ:cA) (N:Nat) (ops:Array Oper) (o:Oper) (E:Env) (v:ag):Prop:=
 (guardOf ops E o=some true∧l2 Γ o E v)∨(guardOf ops E o=some false∧v = .cw []) ∨
  (guardOf ops E o=some true∧∀ s,J s→aZ P N o E s (fun x aj=>x=v∧aj=s) (fun _ _=>False))
structure uQ (ops:Array Oper):Prop where
 uniq:∀ (i j:Nat) (x y:Oper) (d:Tmp),ops[i]? = some x→ops[j]? = some y→x.dst=some d→y.dst=some d→i=j
 apart:∀ (i j:Nat) (x y:Oper) (d:Tmp),i≠j→ops[i]? = some x→ops[j]? = some y→x.dst=some d→d∈looks ops y→lE ops i j∨lE ops j i
 back:∀ i j,re ops i j→j<i
 own:∀ (i:Nat) (x:Oper) (d:Tmp),ops[i]? = some x→x.dst=some d→d∉looks ops x
inductive px (P:Program) (Γ:cA) (N:Nat) (ops:Array Oper) (Q:b9→Env→ao→Prop):(ao→Prop)→(Nat→Bool)→Env→ao→Prop
 | congr {J:ao→Prop} {D:Nat→Bool} {env:Env} {s:ao} (e:Env) (he:∀ t,e.get? t=env.get? t) (h:px P Γ N ops Q J D e s):px P Γ N ops Q J D env s
 | fin {J:ao→Prop} {D:Nat→Bool} {env:Env} {s:ao} (eI:∀ i,i<ops.size→D i=true) (h:Q .normal env s):px P Γ N ops Q J D env s
 | still {J:ao→Prop} {D:Nat→Bool} {env:Env} {s:ao} (cO:J s) (i:Nat) (o:Oper) (d:Tmp) (v:ag) (aD:hq ops D i) (ai:ops[i]? = some o) (ax:o.dst=some d) (aU:d<N)
   (aw:Still J P Γ N ops o (iH env (looks ops o)) v) (h:px P Γ N ops Q J (ei D i) ((d,v)::env) s):px P Γ N ops Q J D env s
 | split {J:ao→Prop} {D:Nat→Bool} {env:Env} {s:ao} (K X:Nat→ag→ao→Prop) (wE:Nat→ag→ao→ao→Prop) (cJ:∃ i,i<ops.size∧D i=false)
   (av:∀ i o,hq ops D i→ops[i]? = some o→guardOf ops (iH env (looks ops o)) o=some true∧aZ P N o (iH env (looks ops o)) s (K i) (X i)∧∀ d,o.dst=some d→d<N)
   (aL:∀ i o,hq ops D i→ops[i]? = some o→∀ x aj,K i x aj→(wE i x aj=J∧J aj)∨∀ j,j<ops.size→D j=true→j≠i→lE ops i j)
   (aE:∀ i o d,hq ops D i→ops[i]? = some o→o.dst=some d→∀ x aj,K i x aj→px P Γ N ops Q (wE i x aj) (ei D i) ((d,x)::env) aj)
   (lF:∀ i o,hq ops D i→ops[i]? = some o→o.dst=none→∀ x aj,K i x aj→px P Γ N ops Q (wE i x aj) (ei D i) env aj)
   (ab:∀ i o,hq ops D i→ops[i]? = some o→∀ x aj,X i x aj→Q (.panic x) [] aj):px P Γ N ops Q J D env s
abbrev bg (J:ao→Prop) (P:Program) (Γ:cA) (N:Nat) (ops:Array Oper) (Q:b9→Env→ao→Prop) (D:Nat→Bool) (env:Env) (s:ao):Prop:=px P Γ N ops Q J D env s
section
variable {J:ao→Prop} {P:Program} {Γ:cA} {N:Nat} {ops:Array Oper} {Q:b9→Env→ao→Prop} {D:Nat→Bool} {env:Env} {s:ao}
theorem bg.congr (e:Env) (he:∀ t,e.get? t=env.get? t) (h:bg J P Γ N ops Q D e s):bg J P Γ N ops Q D env s:=px.congr e he h
theorem bg.fin (eI:∀ i,i<ops.size→D i=true) (h:Q .normal env s):bg J P Γ N ops Q D env s:=px.fin eI h
theorem bg.still (cO:J s) (i:Nat) (o:Oper) (d:Tmp) (v:ag) (aD:hq ops D i) (ai:ops[i]? = some o) (ax:o.dst=some d) (aU:d<N)
  (aw:Still J P Γ N ops o (iH env (looks ops o)) v) (h:bg J P Γ N ops Q (ei D i) ((d,v)::env) s):bg J P Γ N ops Q D env s:=px.still cO i o d v aD ai ax aU aw h
theorem bg.split (K X:Nat→ag→ao→Prop) (cJ:∃ i,i<ops.size∧D i=false)
  (av:∀ i o,hq ops D i→ops[i]? = some o→guardOf ops (iH env (looks ops o)) o=some true∧aZ P N o (iH env (looks ops o)) s (K i) (X i)∧∀ d,o.dst=some d→d<N)
  (aL:∀ i o,hq ops D i→ops[i]? = some o→∀ x aj,K i x aj→J aj∨∀ j,j<ops.size→j≠i→lE ops i j)
  (aE:∀ i o d,hq ops D i→ops[i]? = some o→o.dst=some d→∀ x aj,K i x aj→bg J P Γ N ops Q (ei D i) ((d,x)::env) aj)
  (lF:∀ i o,hq ops D i→ops[i]? = some o→o.dst=none→∀ x aj,K i x aj→bg J P Γ N ops Q (ei D i) env aj)
  (ab:∀ i o,hq ops D i→ops[i]? = some o→∀ x aj,X i x aj→Q (.panic x) [] aj):bg J P Γ N ops Q D env s:=
 px.split K X (fun _ _ _=>J) cJ av (fun i o U ad x aj al=>(aL i o U ad x aj al).imp (fun h=>⟨rfl,h⟩) (fun h j bf _ bE=>h j bf bE)) aE lF ab
end
def kH:ao→Prop:=fun _=>True
abbrev bc (P:Program) (Γ:cA) (N:Nat) (ops:Array Oper) (Q:b9→Env→ao→Prop) (D:Nat→Bool) (env:Env) (s:ao):Prop:=bg kH P Γ N ops Q D env s
structure k5 (J:ao→Prop) (P:Program) (Γ:cA) (N:Nat) (B:fV) (ro:Option Nat) (ops:Array Oper) (D L:Nat→Bool) (V:Nat→ag) (E:Nat→Env) (env:Env) (s:ao) (a:Act) (w:World) (p:bV):Prop where
 sub:∀ i,L i=true→D i=true
 sc:wC ops D
 rh:wC ops L
 st:dI N B ro [] s a w p
 known:∀ t v,env.get? t=some v→(∃ k o,D k=true∧L k=false∧ops[k]? = some o∧o.dst=some t)∨Rel w p (a.tmps.getD t undef) v
 wF:∀ i o,D i=true→L i=false→ops[i]? = some o→∃ d,o.dst=some d∧d<N∧env.get? d=some (V i)∧Still J P Γ N ops o (E i) (V i) ∧
  (∀ t x,(E i).get? t=some x→t∈looks ops o∧(∀ k u,ops[k]? = some u→u.dst=some t→lE ops i k→L k=false→x=V k) ∧
   ((∀ k u,ops[k]? = some u→u.dst=some t→lE ops i k→L k=true)→Rel w p (a.tmps.getD t undef) x))
 bound:∀ i,D i=true→i<ops.size
 inv:(∀ i,D i=true→L i=true)∨J s
theorem dI.restrict {N:Nat} {B:fV} {ro:Option Nat} {env:Env} {s:ao} {a:Act} {w:World} {p:bV} (h:dI N B ro env s a w p) (e:Env) (he:∀ t v,e.get? t=some v→Rel w p (a.tmps.getD t undef) v) :
  dI N B ro e s a w p:=⟨h.size,he,h.wf,h.defs,h.round,h.base⟩
section
variable {J:ao→Prop} {P:Program} {Γ:cA} {N:Nat} {ops:Array Oper} {Q:b9→Env→ao→Prop}
theorem k5.ahead (dK:uQ ops) {B:fV} {ro:Option Nat} {D L:Nat→Bool} {V:Nat→ag} {E:Nat→Env} {env:Env} {s:ao} {a:Act} {w:World} {p:bV}
  (h:k5 J P Γ N B ro ops D L V E env s a w p) {i:Nat} {o:Oper} {d:Tmp} {v:ag} (aD:hq ops D i) (ai:ops[i]? = some o) (ax:o.dst=some d) (aU:d<N)
  (cO:J s) (aw:Still J P Γ N ops o (iH env (looks ops o)) v) :
  k5 J P Γ N B ro ops (ei D i) L (fun j=>if j=i then v else V j) (fun j=>if j=i then iH env (looks ops o) else E j) ((d,v)::env) s a w p:=by
 have Tb:L i=false:=by
  cases aC:L i with
  | false=>rfl
  | true=>have:=h.sub i aC;rw [aD.2.1] at this;cases this
 refine ⟨fun j aL=>wD (h.sub j aL),h.sc.ei aD,h.rh,h.st,fun t x ab=>?_,fun j u aL nd hu=>?_,fun j aL=>?_,.inr cO⟩
 ·simp only [Env.get?] at ab
  split at ab
  ·rename_i he
   have:=ae0 he;subst this;exact .inl ⟨i,o,nc _ _,Tb,ai,ax⟩
  ·rcases h.known t x ab with ⟨k,u,U,ad,al,bf⟩|eW
   ·exact .inl ⟨k,u,wD U,ad,al,bf⟩
   ·exact .inr eW
 ·by_cases e:j=i
  ·subst e
   rw [ai] at hu;cases hu;refine ⟨d,ax,aU,by simp [Env.get?],?_,?_⟩
   ·simpa using aw
   ·intro t x ab
    simp only [ag7] at ab;obtain ⟨hM,mD⟩:=K3 ab;refine ⟨mD,fun k u aE lG ij py=>?_,fun gh=>?_⟩
    ·have cJ:k≠j:=fun e'=>by
      subst e';rw [ai] at aE;cases aE;rw [ax] at lG;cases lG;exact dK.own _ _ _ ai ax mD
     rw [f0 cJ];have Tc:D k=true:=by
      have:=(h.sc.ei aD).rf (nc D j) ij;rwa [j6 _ cJ] at this
     obtain ⟨c9,b2,bU,e1,-⟩:=h.wF k u Tc py aE;rw [lG] at b2;cases b2;rw [hM] at e1;cases e1;rfl
    ·rcases h.known t x hM with ⟨k,u,U,ad,al,bf⟩|eW
     ·have cJ:k≠j:=fun e'=>by subst e';rw [aD.2.1] at U;cases U
      rcases dK.apart k j u o t cJ al ai bf mD with ij|ij
      ·have:=h.sc.rf U ij;rw [aD.2.1] at this;cases this
      ·have:=gh k u al bf ij;rw [ad] at this;cases this
     ·exact eW
  ·rw [j6 _ e] at aL
   obtain ⟨c9,b2,bU,e1,oy,pz⟩:=h.wF j u aL nd hu;have nT:d≠c9:=fun e'=>by subst e';exact e (dK.uniq j i u o d hu ai b2 ax)
   refine ⟨c9,b2,bU,?_,?_,?_⟩
   ·simp only [Env.get?,f0 e]
    have:af0 d c9=false:=by
     cases an:af0 d c9 with
     | false=>rfl
     | true=>exact absurd (ae0 an) nT
    simp [this,e1]
   ·simpa [e] using oy
   ·intro t x ab
    simp only [f0 e] at ab;obtain ⟨f1,f2,f3⟩:=pz t x ab;refine ⟨f1,fun k j5 aE lG ij py=>?_,f3⟩;have cJ:k≠i:=fun e'=>by
     subst e';have:=h.sc.rf aL ij;rw [aD.2.1] at this;cases this
    rw [f0 cJ];exact f2 k j5 aE lG ij py
 ·by_cases e:j=i
  ·subst e;exact aD.1
  ·rw [j6 _ e] at aL;exact h.bound j aL
theorem k5.Td (dK:uQ ops) {B:fV} {ro:Option Nat} {D L:Nat→Bool} {V:Nat→ag} {E:Nat→Env} {env:Env} {s:ao} {a:Act} {w w':World} {p bj:bV}
  (h:k5 J P Γ N B ro ops D L V E env s a w p) {i:Nat} {o:Oper} {d:Tmp} {val:Value} (aD:hq ops L i) (eI:D i=true) (ai:ops[i]? = some o) (ax:o.dst=some d)
  (hle:dg w p w' bj) (aE:Kept s s w p w' bj) (cf:dx w' bj s) (m':Rel w' bj val (V i)):k5 J P Γ N B ro ops D (ei L i) V E env s (a.put (some d) val) w' bj:=by
 obtain ⟨c9,cp,nK,De,K4,eS⟩:=h.wF i o eI aD.2.1 ai;rw [ax] at cp;cases cp;have hW:=h.st.step hle aE cf;have mE:=hW.put nK m';have kl:∀ t,t≠d→(a.put (some d) val).tmps.getD t undef=a.tmps.getD t undef:=fun t aN=>by
  simp only [Act.put,ag1,ag5,f0 (fun e:d=t=>aN e.symm)]
 have Df:(a.put (some d) val).tmps.getD d undef=val:=by
  have:d<a.tmps.size:=by rw [h.st.size];exact nK
  simp [Act.put,ag1,ag5,this]
 refine ⟨fun j aL=>?_,h.sc,h.rh.ei aD,mE.restrict [] (by simp [Env.get?]),fun t x ab=>?_,fun j u aL nd hu=>?_,h.bound,h.inv.imp (fun q j aL=>wD (q j aL)) id⟩
 ·by_cases e:j=i
  ·subst e;exact eI
  ·rw [j6 _ e] at aL;exact h.sub j aL
 ·by_cases e:t=d
  ·subst e
   rw [De] at ab;cases ab;exact .inr (by rw [Df];exact m')
  ·rcases h.known t x ab with ⟨k,u,U,ad,al,bf⟩|eW
   ·have cJ:k≠i:=fun e'=>by subst e';rw [ai] at al;cases al;rw [ax] at bf;cases bf;exact e C
    exact .inl ⟨k,u,U,by rw [j6 _ cJ];exact ad,al,bf⟩
   ·exact .inr (by rw [kl t e];exact eW.mono hle)
 ·have cJ:j≠i:=fun e=>by subst e;rw [nc] at nd;cases nd
  rw [j6 _ cJ] at nd;obtain ⟨c9,b2,bU,e1,oy,pz⟩:=h.wF j u aL nd hu;refine ⟨c9,b2,bU,e1,oy,fun t x ab=>?_⟩;obtain ⟨f1,f2,f3⟩:=pz t x ab;refine ⟨f1,fun k j5 eH lG ij py=>?_,fun gh=>?_⟩
  ·have tv:k≠i:=fun e=>by subst e;rw [nc] at py;cases py
   rw [j6 _ tv] at py;exact f2 k j5 eH lG ij py
  ·by_cases e:t=d
   ·subst e
    rcases dK.apart i j o u t (Ne.symm cJ) ai hu ax f1 with ij|ij
    ·have:=h.rh.ei aD |>.rf (nc L i) ij
     rw [j6 _ cJ] at this;rw [nd] at this;cases this
    ·have:=f2 i o ai ax ij aD.2.1
     subst this;rw [Df];exact m'
   ·rw [kl t e]
    refine (f3 fun k j5 eH lG ij=>?_).mono hle;have tv:k≠i:=fun e'=>by subst e';rw [ai] at eH;cases eH;rw [ax] at lG;cases lG;exact e C
    have:=gh k j5 eH lG ij;rwa [j6 _ tv] at this
theorem k5.ready (dK:uQ ops) {B:fV} {ro:Option Nat} {D L:Nat→Bool} {V:Nat→ag} {E:Nat→Env} {env:Env} {s:ao} {a:Act} {w:World} {p:bV}
  (h:k5 J P Γ N B ro ops D L V E env s a w p) {i:Nat} {o:Oper} (aD:hq ops L i) (eI:D i=false) (ai:ops[i]? = some o) :
  hq ops D i∧dI N B ro (iH env (looks ops o)) s a w p:=by
 refine ⟨⟨aD.1,eI,fun j aL=>h.sub j (aD.2.2 j aL)⟩,h.st.restrict _ fun t v aw=>?_⟩;obtain ⟨U,ad⟩:=K3 aw;rcases h.known t v U with ⟨k,u,g1,g2,g3,g4⟩|eW
 ·have cJ:k≠i:=fun e=>by subst e;rw [eI] at g1;cases g1
  rcases dK.apart k i u o t cJ g3 ai g4 ad with ij|ij
  ·have:=h.sc.rf g1 ij;rw [eI] at this;cases this
  ·have:=(h.rh.ei aD).rf (nc L i) ij
   rw [j6 _ cJ,g2] at this;cases this
 ·exact eW
theorem k5.both (dK:uQ ops) {B:fV} {ro:Option Nat} {D L:Nat→Bool} {V:Nat→ag} {E:Nat→Env} {env:Env} {s aj:ao} {a:Act} {w w':World} {p bj:bV}
  (h:k5 J P Γ N B ro ops D L V E env s a w p) {i:Nat} {o:Oper} {val:Value} {x:ag} (aD:hq ops L i) (qh:hq ops D i) (ai:ops[i]? = some o) (nK:∀ d,o.dst=some d→d<N)
  (hle:dg w p w' bj) (aE:Kept s aj w p w' bj) (cf:dx w' bj aj) (m':Rel w' bj val x) (cO:J aj∨∀ j,j<ops.size→D j=true→j≠i→lE ops i j) :
  k5 J P Γ N B ro ops (ei D i) (ei L i) V E (match o.dst with|some d=>(d,x)::env|none=>env) aj (a.put o.dst val) w' bj:=by
 have hW:=h.st.step hle aE cf;have kl:∀ t,o.dst≠some t→(a.put o.dst val).tmps.getD t undef=a.tmps.getD t undef:=fun t aN=>by
  cases ax:o.dst with
  | none=>rfl
  | some d=>
   have:d≠t:=fun e=>aN (by rw [ax,e])
   simp only [Act.put,ag1,ag5,f0 this]
 have Df:∀ d,o.dst=some d→(a.put o.dst val).tmps.getD d undef=val:=fun d ax=>by
  have:d<a.tmps.size:=by rw [h.st.size];exact nK d ax
  simp [ax,Act.put,ag1,ag5,this]
 have mE:dI N B ro [] aj (a.put o.dst val) w' bj:=by
  cases ax:o.dst with
  | none=>exact hW
  | some d=>exact (hW.put (nK d ax) m').restrict [] (by simp [Env.get?])
 refine ⟨fun j aL=>?_,h.sc.ei qh,h.rh.ei aD,mE,fun t y ay=>?_,fun j u aL nd hu=>?_,fun j aL=>?_,cO.symm.imp (fun q j aL=>?_) id⟩
 ·by_cases e:j=i
  ·subst e;exact nc _ _
  ·rw [j6 _ e] at aL;exact wD (h.sub j aL)
 ·by_cases e:o.dst=some t
  ·simp only [e,Env.get?,at9,ag7] at ay
   cases ay;exact .inr (by rw [Df t e];exact m')
  ·have c8:env.get? t=some y:=by
    cases ax:o.dst with
    | none=>rw [ax] at ay;exact ay
    | some d=>
     rw [ax] at ay e;simp only [Env.get?] at ay;have:af0 d t=false:=by
      cases an:af0 d t with
      | false=>rfl
      | true=>exact absurd (ae7 some (ae0 an)) e
     rw [this] at ay;simpa using ay
   rcases h.known t y c8 with ⟨k,u,U,ad,al,bf⟩|eW
   ·have cJ:k≠i:=fun e'=>by subst e';rw [ai] at al;cases al;exact e bf
    exact .inl ⟨k,u,wD U,by rw [j6 _ cJ];exact ad,al,bf⟩
   ·exact .inr (by rw [kl t e];exact eW.mono hle)
 ·have cJ:j≠i:=fun e=>by subst e;rw [nc] at nd;cases nd
  rw [j6 _ cJ] at nd aL;obtain ⟨c9,b2,bU,e1,oy,pz⟩:=h.wF j u aL nd hu;have Ax:o.dst≠some c9:=fun e=>cJ (dK.uniq j i u o c9 hu ai b2 e)
  refine ⟨c9,b2,bU,?_,oy,fun t y ay=>?_⟩
  ·cases ax:o.dst with
   | none=>exact e1
   | some d=>
    simp only [Env.get?];have:af0 d c9=false:=by
     cases an:af0 d c9 with
     | false=>rfl
     | true=>exact absurd (by rw [ax,ae0 an]) Ax
    rw [this];simpa using e1
  ·obtain ⟨f1,f2,f3⟩:=pz t y ay
   have K5:o.dst≠some t:=fun e=>by
    rcases dK.apart i j o u t (Ne.symm cJ) ai hu e f1 with ij|ij
    ·have:=(h.rh.ei aD).rf (nc L i) ij
     rw [j6 _ cJ,nd] at this;cases this
    ·have:=h.sc.rf aL ij;rw [qh.2.1] at this;cases this
   refine ⟨f1,fun k j5 eH lG ij py=>?_,fun gh=>?_⟩
   ·have tv:k≠i:=fun e=>by subst e;rw [nc] at py;cases py
    rw [j6 _ tv] at py;exact f2 k j5 eH lG ij py
   ·rw [kl t K5]
    refine (f3 fun k j5 eH lG ij=>?_).mono hle;have tv:k≠i:=fun e'=>by subst e';rw [ai] at eH;cases eH;exact K5 lG
    have:=gh k j5 eH lG ij;rwa [j6 _ tv] at this
 ·by_cases e:j=i
  ·subst e;exact aD.1
  ·rw [j6 _ e] at aL;exact h.bound j aL
 ·by_cases e:j=i
  ·subst e;exact nc _ _
  ·rw [j6 _ e] at aL
   exact (h.rh.ei aD).rf (nc L i) (q j (h.bound j aL) aL e)
theorem k5.Te (dK:uQ ops) {B:fV} {ro:Option Nat} {D L:Nat→Bool} {V:Nat→ag} {E:Nat→Env} {env:Env} {s aj:ao} {a:Act} {w w':World} {p bj:bV} {wE:ao→Prop}
  (h:k5 J P Γ N B ro ops D L V E env s a w p) {i:Nat} {o:Oper} {val:Value} {x:ag} (aD:hq ops L i) (qh:hq ops D i) (ai:ops[i]? = some o) (nK:∀ d,o.dst=some d→d<N)
  (hle:dg w p w' bj) (aE:Kept s aj w p w' bj) (cf:dx w' bj aj) (m':Rel w' bj val x) (cO:(wE=J∧J aj)∨∀ j,j<ops.size→D j=true→j≠i→lE ops i j) :
  k5 wE P Γ N B ro ops (ei D i) (ei L i) V E (match o.dst with|some d=>(d,x)::env|none=>env) aj (a.put o.dst val) w' bj:=by
 rcases cO with ⟨rfl,cO⟩|gh
 ·exact h.both dK aD qh ai nK hle aE cf m' (.inl cO)
 ·have e3:=h.both dK aD qh ai nK hle aE cf m' (.inr gh)
  have left:∀ j,ei D i j=true→ei L i j=true:=fun j aL=>by
   by_cases e:j=i
   ·subst e;exact nc _ _
   ·rw [j6 _ e] at aL
    exact (h.rh.ei aD).rf (nc L i) (gh j (h.bound j aL) aL e)
  exact ⟨e3.sub,e3.sc,e3.rh,e3.st,e3.known,fun j u aL nd _=>(by rw [left j aL] at nd;cases nd),e3.bound,.inl left⟩
def jP (listed:Array Bool) (n:Nat):Nat→Bool:=fun i=>decide (i<n)&&listed.getD i true
theorem mem_ready {listed:Array Bool} (yB:∀ i j,re ops i j→j<i) {i:Nat} (h:i∈Region.ready .any ops listed):hq ops (jP listed ops.size) i:=by
 unfold Region.ready at h;simp only [ah6,ak5,f8,ai5] at h;obtain ⟨au,aC,gh⟩:=h;refine ⟨au,by simp only [jP,aC,Bool.and_false],fun j ⟨o,e,ai,he,an,aL⟩=>?_⟩;have ac1:j<i:=yB i j ⟨o,e,ai,he,an,aL⟩;rw [ai] at gh;simp only [ao9,af9,aB0] at gh;have:=gh e he;simp only [an,ak2,ag6] at this;rw [aL] at this;have te:j<ops.size:=by omega
 simp only [jP,te,decide_true,f5];rw [ag1] at this ⊢;cases ab:listed[j]? with
 | none=>rfl
 | some b=>rw [ab] at this;simpa using this
theorem K6 {listed:Array Bool} (yB:∀ i j,re ops i j→j<i) (az:Region.ready .any ops listed=[]) (cc:listed.size=ops.size):∀ i,i<ops.size→jP listed ops.size i=true:=by
 intro i
 induction i using av1 with
 | _ i a1=>
  intro aR;cases aC:listed.getD i true with
  | true=>simp [jP,aR,aC]
  | false=>
   have fH:i∈Region.ready .any ops listed:=by
    unfold Region.ready;simp only [ah6,ak5,f8,ai5];refine ⟨aR,aC,?_⟩;have ai:ops[i]? = some ops[i]:=by simp
    rw [ai];simp only [ao9,af9,aB0];intro e he;cases an:Region.binds .any e with
    | false=>rfl
    | true=>
     simp only [ak2,ag6];have au:=yB i e.on ⟨_,e,ai,he,an,rfl⟩;have:=a1 e.on au af;have cI:e.on<listed.size:=by omega
     simp only [jP,f8] at this;rw [ag1] at this ⊢;have Tf:listed[e.on]? = some listed[e.on]:=by simp [cI]
     rw [Tf] at this ⊢;simpa using this.2
   rw [az] at fH;cases fH
theorem Gv {listed:Array Bool} {i:Nat} (aR:i<ops.size) (cc:listed.size=ops.size):jP (listed.setIfInBounds i true) ops.size=ei (jP listed ops.size) i:=by
 funext j;unfold jP ei;by_cases e:j=i
 ·subst e;simp [aR,cc]
 ·have e':¬ i=j:=fun h=>e h.symm
  simp only [f0 e,ag1,ag5,f0 e']
theorem Tg (aP:bQ P Γ) {B:fV} {ro:Option Nat} {E:Env} {s:ao} {a:Act} {w:World} {p:bV} {o:Oper} {d:Tmp} {v:ag} (ax:o.dst=some d) (aI:dI N B ro E s a w p) (cO:J s) (h:Still J P Γ N ops o E v) {R:Ending→World→Prop} {S:Act→World→Prop}
  (I:∀ val w' bj,Rel w' bj val v→dg w p w' bj→Kept s s w p w' bj→dx w' bj s→S (a.put (some d) val) w') :
  (if Region.wanted o (yielded ops a.tmps)=true then gJ o=true∧p7 P ((execOp a.eval o).run P w) (fun e w'=>match e with
   | .returned v=>S (a.put o.dst v) w'
   | .panicked dJ=>R (.panicked dJ) w'
   | .outgrown=>False) else S (a.put o.dst undef) w):=by
 rcases h with ⟨av,aw⟩|⟨av,rfl⟩|⟨av,aw⟩
 ·rw [g6 (vZ aI av)]
  refine ⟨aw.gJ,?_⟩;obtain ⟨val,w',bj,cS,aD,hle,aE⟩:=aw.ok aP aI;rw [cS];obtain ⟨mx,iF⟩:=aE s aI.wf;rw [ax];exact I val w' bj aD hle mx iF
 ·rw [f0 (by rw [vZ aI av];simp),ax]
  exact I undef w p FY (.refl w p) (.refl s w p) aI.wf
 ·rw [g6 (vZ aI av)]
  refine ⟨(aw s cO).1,((aw s cO).2 ro B a w p aI).mono ?_⟩;rintro e w' ⟨aj,bj,hle,aE,cf,he⟩;cases e with
  | returned val=>
   obtain ⟨x,⟨rfl,rfl⟩,aD⟩:=he;rw [ax];exact I val w' bj aD hle aE cf
  | panicked dJ=>obtain ⟨v,x,-,a7,-⟩:=he;exact a7.elim
  | outgrown=>exact he
end
section
variable {J:ao→Prop} {P:Program} {Γ:cA} {N:Nat} {ops:Array Oper} {Q:b9→Env→ao→Prop}
def sd (listed:Array Bool) (n:Nat):Nat:=(ag3 n).countP fun i => !jP listed n i
theorem K7 {listed:Array Bool} {i:Nat} (aR:i<ops.size) (cc:listed.size=ops.size) (aC:jP listed ops.size i=false) :
  sd (listed.setIfInBounds i true) ops.size+1=sd listed ops.size:=by
 unfold sd;rw [Gv aR cc];have key:∀ l:List Nat,l.Nodup→i∈l→l.countP (fun j => !ei (jP listed ops.size) i j)+1=l.countP (fun j => !jP listed ops.size j):=by
  intro l
  induction l with
  | nil=>intro _ h;cases h
  | cons x l a1=>
   intro az hm;have gi:=as0.1 az;simp only [List.countP_cons];by_cases e:x=i
   ·subst e
    have:l.countP (fun j => !ei (jP listed ops.size) x j)=l.countP (fun j => !jP listed ops.size j):=by
     apply List.countP_congr;intro y ay;have cJ:y≠x:=fun e=>gi.1 (e ▸ ay)
     rw [j6 _ cJ]
    rw [this,nc,aC];simp
   ·have Dg:i∈l:=by rcases af2.1 hm with h|h;exact absurd h.symm e;exact h
    have:=a1 gi.2 Dg;rw [j6 _ e];omega
 exact key _ List.nodup_range (ak5.2 aR)
theorem K8 {listed:Array Bool} (h:sd listed ops.size=0):∀ i,i<ops.size→jP listed ops.size i=true:=by
 intro i aR;unfold sd at h;rw [List.countP_eq_zero] at h;have:=h i (ak5.2 aR);simpa using this
theorem K9 {Q:hd→Act→World→Prop} {i:Nat} {rest:List Nat} {o:Oper} (ai:ops[i]? = some o) (a:Act) (w:World) :
  jh P ops Q (i::rest) a w=(if Region.wanted o (yielded ops a.tmps)=true then gJ o=true∧p7 P ((execOp a.eval o).run P w) (fun e w'=>match e with
   | .returned v=>jh P ops Q rest (a.put o.dst v) w'
   | .panicked dJ=>Q (.panic dJ) a w'
   | .outgrown=>False) else jh P ops Q rest (a.put o.dst undef) w):=by
 simp only [jh,ai];split
 ·exact propext ⟨fun h=>⟨h.1,h.2.mono fun e w' h=>by cases e<;>exact h⟩,fun h=>⟨h.1,h.2.mono fun e w' h=>by cases e<;>exact h⟩⟩
 ·rfl
theorem K' (fuel t:Nat) (listed:Array Bool) :
  (Region.ready .any ops listed=[]∧Region.linearise.go .any ops (fuel+1) t listed []=[]) ∨
  ∃ i∈Region.ready .any ops listed,∃ bI,Region.linearise.go .any ops (fuel+1) t listed []=i::Region.linearise.go .any ops fuel bI (listed.setIfInBounds i true) []:=by
 simp only [Region.linearise.go]
 change (Region.ready .any ops listed=[]∧(match (Region.ready .any ops listed)[t % (Region.ready .any ops listed).length]? with
   | some i=>Region.linearise.go .any ops fuel (t / (Region.ready .any ops listed).length) (listed.setIfInBounds i true) [i]
   | none=>[].reverse)=[])∨∃ i∈Region.ready .any ops listed,∃ bI,(match (Region.ready .any ops listed)[t % (Region.ready .any ops listed).length]? with
   | some i=>Region.linearise.go .any ops fuel (t / (Region.ready .any ops listed).length) (listed.setIfInBounds i true) [i]
   | none=>[].reverse)=i::Region.linearise.go .any ops fuel bI (listed.setIfInBounds i true) []
 cases aR:(Region.ready .any ops listed)[t % (Region.ready .any ops listed).length]? with
 | none=>
  have Th:Region.ready .any ops listed=[]:=by
   cases aD:Region.ready .any ops listed with
   | nil=>rfl
   | cons x xs=>
    rw [aD] at aR;have au:t % (x::xs).length<(x::xs).length:=Nat.mod_lt _ ba;simp at aR;simp at au;omega
  exact .inl ⟨Th,rfl⟩
 | some i=>
  refine .inr ⟨i,List.mem_of_getElem? aR,t / (Region.ready .any ops listed).length,?_⟩;simp only [];rw [linearise_go_acc];rfl
theorem k5.post {B:fV} {ro:Option Nat} {D L:Nat→Bool} {V:Nat→ag} {E:Nat→Env} {env:Env} {s:ao} {a:Act} {w:World} {p:bV}
  (h:k5 J P Γ N B ro ops D L V E env s a w p) (bM:∀ i,i<ops.size→L i=true):dI N B ro env s a w p:=
 h.st.restrict _ fun t v aw=>by
  rcases h.known t v aw with ⟨k,u,U,ad,al,-⟩|eW
  ·have:=bM k (h.bound k U);rw [ad] at this;cases this
  ·exact eW
theorem bg.sound (aP:bQ P Γ) (dK:uQ ops) {D:Nat→Bool} {env:Env} {s:ao} (h:bg J P Γ N ops Q D env s):∀ (fuel t:Nat) (listed:Array Bool) (B:fV) (ro:Option Nat) (V:Nat→ag) (E:Nat→Env) (a:Act) (w:World) (p:bV),
  listed.size=ops.size→sd listed ops.size≤fuel→k5 J P Γ N B ro ops D (jP listed ops.size) V E env s a w p →
  jh P ops (kz N B ro s w p Q) (Region.linearise.go .any ops fuel t listed []) a w:=by
 have pending:∀ {J:ao→Prop} {D:Nat→Bool} {env:Env} {s:ao} (fuel:Nat),
   (∀ (t:Nat) (listed:Array Bool) (B:fV) (ro:Option Nat) (V:Nat→ag) (E:Nat→Env) (a:Act) (w:World) (p:bV),listed.size=ops.size→sd listed ops.size≤fuel →
    k5 J P Γ N B ro ops D (jP listed ops.size) V E env s a w p→jh P ops (kz N B ro s w p Q) (Region.linearise.go .any ops fuel t listed []) a w) →
   ∀ (bI:Nat) (listed:Array Bool) (B:fV) (ro:Option Nat) (V:Nat→ag) (E:Nat→Env) (a:Act) (w:World) (p:bV) (i:Nat),listed.size=ops.size→sd listed ops.size≤fuel+1 →
    k5 J P Γ N B ro ops D (jP listed ops.size) V E env s a w p→i∈Region.ready .any ops listed→D i=true →
    jh P ops (kz N B ro s w p Q) (i::Region.linearise.go .any ops fuel bI (listed.setIfInBounds i true) []) a w:=by
  intro J D env s fuel a1 bI listed B ro V E a w p i cc se h6 aR eI;have aD:=mem_ready dK.back aR;obtain ⟨o,ai⟩:∃ o,ops[i]? = some o:=⟨_,at6 aD.1⟩;obtain ⟨d,ax,nK,De,K4,eS⟩:=h6.wF i _ eI aD.2.1 ai;have aI:dI N B ro (E i) s a w p:=h6.st.restrict _ fun t v aw=>by
   obtain ⟨-,-,f3⟩:=eS t v aw;exact f3 fun k u aE lG ij=>by
    have:=(h6.rh.ei aD).rf (nc (jP listed ops.size) i) ij;have cJ:k≠i:=fun e=>by
     subst e;rw [ai] at aE;cases aE;rw [ax] at lG;cases lG;exact dK.own _ _ _ ai ax (eS _ _ aw).1
    rwa [j6 _ cJ] at this
  rw [K9 ai];have cO:J s:=h6.inv.elim (fun q=>by have:=q i eI;rw [aD.2.1] at this;cases this) id;refine Tg aP ax aI cO K4 (R:=fun e w'=>match e with | .panicked dJ=>kz N B ro s w p Q (.panic dJ) a w'|_=>False) ?_;intro val w' bj eW hle aE cf;have uR:=h6.Td dK aD eI ai ax hle aE cf eW;rw [← Gv aD.1 cc] at uR;have Ti:=K7 aD.1 cc aD.2.1;refine v7 (fun _ _ _ (q:kz N B ro s w' bj Q _ _ _)=>q.after hle aE) _ _ _ (a1 bI _ B ro V E _ w' bj (by simpa using cc) af uR)
 induction h with
 | @congr J D env s e he h a1=>
  intro fuel t listed B ro V E a w p cc se h6;refine a1 fuel t listed B ro V E a w p cc se ⟨h6.sub,h6.sc,h6.rh,h6.st,fun t v aw=>h6.known t v ((he t).symm.trans aw),fun i o U ad al=>?_,h6.bound,h6.inv⟩;obtain ⟨d,ea,dj,dQ,m5⟩:=h6.wF i o U ad al;exact ⟨d,ea,dj,(he d).trans dQ,m5⟩
 | @fin J D env s eI br=>
  intro fuel
  induction fuel with
  | zero=>
   intro t listed B ro V E a w p cc se h6;have gh:=K8 (ops:=ops) (listed:=listed) af;exact .here .normal br (h6.post gh)
  | succ fuel a1=>
   intro t listed B ro V E a w p cc se h6;rcases K' (ops:=ops) fuel t listed with ⟨az,av⟩|⟨i,aR,bI,av⟩
   ·rw [av]
    exact .here .normal br (h6.post (K6 dK.back az cc))
   ·rw [av]
    exact pending fuel a1 bI listed B ro V E a w p i cc se h6 aR (eI i (mem_ready dK.back aR).1)
 | @still J D env s cO i o d v aD ai ax aU aw h a1=>
  intro fuel t listed B ro V E a w p cc se h6;exact a1 fuel t listed B ro _ _ a w p cc se (h6.ahead dK aD ai ax aU cO aw)
 | @split J D env s K X wE cJ av aL aE lF ab Tj Tk=>
  intro fuel
  induction fuel with
  | zero=>
   intro t listed B ro V E a w p cc se h6;have gh:=K8 (ops:=ops) (listed:=listed) af;obtain ⟨j,aL,Gw⟩:=cJ;have:=h6.sub j (gh j aL);rw [Gw] at this;cases this
  | succ fuel a1=>
   intro t listed B ro V E a w p cc se h6;rcases K' (ops:=ops) fuel t listed with ⟨az,qi⟩|⟨i,aR,bI,qi⟩
   ·obtain ⟨j,aL,Gw⟩:=cJ
    have:=h6.sub j (K6 dK.back az cc j aL);rw [Gw] at this;cases this
   ·rw [qi]
    cases eI:D i with
    | true=>exact pending fuel a1 bI listed B ro V E a w p i cc se h6 aR eI
    | false=>
     have aD:=mem_ready dK.back aR;obtain ⟨o,ai⟩:∃ o,ops[i]? = some o:=⟨_,at6 aD.1⟩;obtain ⟨qh,aI⟩:=h6.ready dK aD eI ai;obtain ⟨k6,qj,nK⟩:=av i _ qh ai;have Ti:=K7 aD.1 cc aD.2.1;rw [K9 ai,g6 (vZ aI k6)];refine ⟨qj.1,(qj.2 ro B a w p aI).mono ?_⟩;rintro e w' ⟨aj,bj,hle,lX,cf,he⟩;cases e with
     | returned val=>
      obtain ⟨x,bk,eW⟩:=he;have uR:=h6.Te dK aD qh ai nK hle lX cf eW (aL i _ qh ai x aj bk);rw [← Gv aD.1 cc] at uR;refine v7 (fun _ _ _ (q:kz N B ro aj w' bj Q _ _ _)=>q.after hle lX) _ _ _ ?_;cases ax:o.dst with
      | none=>
       rw [ax] at uR;exact Tk i _ qh ai ax x aj bk fuel bI _ B ro V E _ w' bj (by simpa using cc) af uR
      | some d=>
       rw [ax] at uR;exact Tj i _ d qh ai ax x aj bk fuel bI _ B ro V E _ w' bj (by simpa using cc) af uR
     | panicked dJ=>
      obtain ⟨v,x,ki,hg,eW⟩:=he;exact ⟨.panic x,[],aj,bj,.panic v x _ ki eW,ab i _ qh ai x aj hg,h6.st.step hle lX cf,hle,lX⟩
     | outgrown=>exact he
theorem Tl (ops:Array Oper):sd (al5 ops.size false) ops.size≤ops.size:=by
 unfold sd;have:=List.countP_le_length (p:=fun i => !jP (al5 ops.size false) ops.size i) (l:=ag3 ops.size);simpa using this
theorem ae.draw (aP:bQ P Γ) (hm:P.follows .mixedOrders=true) {id:Nat} (dK:uQ ops) {env:Env} {s:ao} (h:bg J P Γ N ops Q (fun _=>false) env s):ae P N (.region id ops true) Q env s:=by
 intro b B a w p _ aI;refine RO fun t=>?_
 simp only [Region.schedule,hm,Bool.true_or,ag7];have hW:dI N B b.roundOf env s a w.drew p:=aI.step k3 v' (yp aI.wf);have Tm:jP (al5 ops.size false) ops.size=fun _=>false:=by
  funext i;unfold jP;by_cases aR:i<ops.size
  ·simp [aR]
  ·simp [aR]
 have h6:k5 J P Γ N B b.roundOf ops (fun _=>false) (jP (al5 ops.size false) ops.size) (fun _ => .any) (fun _=>[]) env s a w.drew p:=by
  rw [Tm];exact ⟨fun i h=>h,fun i j h=>ot,fun i j h=>ot,hW.restrict [] (by simp [Env.get?]),fun t v aw => .inr (hW.env t v aw),fun i o h=>ot,fun i h=>ot,.inl fun i h=>ot⟩
 have:=bg.sound aP dK h ops.size t (al5 ops.size false) B b.roundOf _ _ a w.drew p ba (Tl ops) h6;exact v7 (fun _ _ _ (q:kz N B b.roundOf s w.drew p Q _ _ _)=>q.after k3 v') _ _ _ this
end
def wG (o:Oper):List Nat:=o.after.toList.filterMap fun e=>if Region.binds .any e then some e.on else none
def ri (l:List Nat) (i:Nat):Nat:=match nth l i with|some x=>x|none=>0
def yC (acc:List Nat):List Nat→Nat
 | []=>0
 | j::wH=>(2^j|||ri acc j)|||yC acc wH
def wI:List Oper→List Nat→List Nat
  | [],acc=>acc
  | o::r,acc=>match yC acc (wG o) with
    | 0=>wI r (acc++[0])
    | m+1=>wI r (acc++[m+1])
def Dh (ops:Array Oper) (x y:Oper):Bool:=
 (match x.dst with|some d=>(looks ops y).contains d|none=>false)||(match y.dst with|some d=>(looks ops x).contains d|none=>false)
def sf (ops:Array Oper):Bool:=
  let ms:=wI ops.toList []
  (ag3 ops.size).all fun j=>match ops[j]? with
    | none=>false
    | some y=>(wG y).all (fun k=>t8 k j)&&(match y.dst with|some d => !(looks ops y).contains d|none=>true) &&
      (ag3 j).all fun i=>match ops[i]? with
        | none=>false
        | some x=>(match x.dst,y.dst with|some d,some c9 => !af0 d c9|_,_=>true)&&(!Dh ops x y||(ri ms j).testBit i)
theorem Di {ops:Array Oper} {i j:Nat} {o:Oper} (ai:ops[i]? = some o):j∈wG o↔re ops i j:=by
 unfold wG re;simp only [List.mem_filterMap,Array.mem_toList_iff];constructor
 ·rintro ⟨e,he,h⟩
  split at h
  ·cases h;exact ⟨o,e,ai,he,‹_›,rfl⟩
  ·cases h
 ·rintro ⟨o',e,cD,he,an,rfl⟩
  rw [ai] at cD;cases cD;exact ⟨e,he,by simp [an]⟩
theorem Tn {ops:Array Oper} {acc:List Nat} {k:Nat} (uS:∀ i j,(ri acc i).testBit j=true→lE ops i j):∀ (wH:List Nat),(∀ j∈wH,re ops k j)→∀ j,(yC acc wH).testBit j=true→lE ops k j:=by
 intro wH
 induction wH with
 | nil=>intro _ j h;simp [yC] at h
 | cons x wH a1=>
  intro ax j h;simp only [yC,am4,Bool.or_eq_true] at h;rcases h with (h|h)|h
  ·rw [al7] at h
   have:=aj' h;subst this;exact .dep (ax _ (i6 ..))
  ·exact .trans (ax _ (i6 ..)) (uS _ _ h)
  ·exact a1 (fun y ay=>ax y (i0 _ ay)) j h
theorem La {ops:Array Oper}:∀ (r:List Oper) (acc:List Nat),(∀ i,r[i]? = ops[acc.length+i]?)→(∀ i j,(ri acc i).testBit j=true→lE ops i j) →
  ∀ i j,(ri (wI r acc) i).testBit j=true→lE ops i j:=by
 intro r
 induction r with
 | nil=>intro acc _ h;exact h
 | cons o r a1=>
  intro acc aD uS;have ai:ops[acc.length]? = some o:=by simpa using (aD 0).symm
  have hm:=Tn uS (k:=acc.length) (wG o) (fun j aL=>(Di ai).1 aL);have key:∀ m,yC acc (wG o)=m→∀ i j,(ri (wI r (acc++[m])) i).testBit j=true→lE ops i j:=by
   intro m yD;refine a1 (acc++[m]) (fun i=>?_) (fun i j h=>?_)
   ·have:=aD (i+1)
    simp only [ap6] at this;rw [this];simp [ao4,ar0 1 i]
   ·unfold ri at h
    rw [yq] at h;by_cases aR:i<acc.length
    ·rw [ag0 aR] at h
     exact uS i j (by unfold ri;rw [yq];exact h)
    ·rw [af4 af] at h
     by_cases he:i=acc.length
     ·subst he
      simp at h;rw [← yD] at h;exact hm j h
     ·have:i-acc.length≠0:=by omega
      cases ab:i-acc.length with
      | zero=>omega
      | succ n=>rw [ab] at h;simp at h
  simp only [wI];split
  ·rename_i bq;exact key _ bq
  ·rename_i m bq;exact key _ bq
theorem Gx {ops:Array Oper} (h:sf ops=true):uQ ops:=by
 unfold sf at h;simp only [ah2,ak5] at h;have iV:=La (ops:=ops) ops.toList [] ba (by intro i j h;simp [ri,nth] at h);have one:∀ j y,ops[j]? = some y→(∀ k,re ops j k→k<j)∧(∀ d,y.dst=some d→d∉looks ops y) ∧
   (∀ i x,i<j→ops[i]? = some x→(∀ d,x.dst=some d→y.dst≠some d)∧(Dh ops x y=true→lE ops j i)):=by
  intro j y ay;have aL:j<ops.size:=(i9.1 ay).1;have:=h j aL;simp only [ay,f8,ah2,ak5] at this;obtain ⟨⟨U,ad⟩,al⟩:=this;refine ⟨fun k aE=>?_,fun d ax=>?_,fun i x aR ab=>?_⟩
  ·have:=U k ((Di ay).2 aE)
   simpa [an3] using this
  ·rw [ax] at ad;simpa using ad
  ·have:=al i aR
   simp only [ab,f8] at this;obtain ⟨g1,g2⟩:=this;refine ⟨fun d ax cp=>?_,fun aB=>?_⟩
   ·rw [ax,cp] at g1;simp at g1
   ·rw [aB] at g2
    exact iV j i (by simpa using g2)
 refine ⟨fun i j x y d ab ay Ay Lb=>?_,fun i j x y d cJ ab ay Ay aC=>?_,fun i j ax=>?_,fun i x d ab ax=>(one i x ab).2.1 d ax⟩
 ·rcases as5 i j with au|he|m2
  ·exact absurd Lb (((one j y ay).2.2 i x au ab).1 d Ay)
  ·exact he
  ·exact absurd Ay (((one i x ab).2.2 j y m2 ay).1 d Lb)
 ·rcases as5 i j with au|he|m2
  ·exact .inr (((one j y ay).2.2 i x au ab).2 (by simp [Dh,Ay,aC]))
  ·exact absurd he cJ
  ·exact .inl (((one i x ab).2.2 j y m2 ay).2 (by simp [Dh,Ay,aC]))
 ·obtain ⟨o,e,ai,-⟩:=id ax
  exact (one i o ai).1 j ax
def wJ (Γ:cA) (N:Nat) (ops:Array Oper) (E:Env) (o:Oper):Option (Nat×ag):=
  match o.dst with
  | none=>none
  | some d=>match t8 d N with
    | false=>none
    | true=>match guardOf ops E o with
      | some true=>match p' Γ o E with
        | some v=>some (d,v)
        | none=>none
      | some false=>some (d,.cw [])
      | none=>none
def Az (Γ:cA) (N:Nat) (ops:Array Oper):List Oper→Env→List Oper×Env
  | [],env=>([],env)
  | o::l,env=>match wJ Γ N ops env o with
    | some (d,v)=>Az Γ N ops l ((d,v)::env)
    | none=>(o::l,env)
theorem Dj {J:ao→Prop} {P:Program} {Γ:cA} {N:Nat} {ops:Array Oper} {E:Env} {o:Oper} {d:Nat} {v:ag} (h:wJ Γ N ops E o=some (d,v)):o.dst=some d∧d<N∧Still J P Γ N ops o E v:=by
 unfold wJ at h;split at h
 ·cases h
 ·rename_i c9 ax
  split at h
  ·cases h
  ·rename_i aU
   split at h
   ·rename_i av
    split at h
    ·rename_i ff aw;cases h;exact ⟨ax,by simpa [an3] using aU,.inl ⟨av,.a aw⟩⟩
    ·cases h
   ·rename_i av;cases h;exact ⟨ax,by simpa [an3] using aU,.inr (.inl ⟨av,rfl⟩)⟩
   ·cases h
section
variable {P:Program} {Γ:cA} {N:Nat} {ops:Array Oper} {Q:b9→Env→ao→Prop} {env:Env} {s:ao}
theorem aa.run (aP:bQ P Γ) {l lH:List Oper} {e0:Env} (h:Az Γ N ops l env=(lH,e0)) (aE:aa P N ops lH Q e0 s):aa P N ops l Q env s:=by
 induction l generalizing env with
 | nil=>simp only [Az,Prod.mk.injEq] at h;obtain ⟨rfl,rfl⟩:=h;exact aE
 | cons o l a1=>
  simp only [Az] at h;split at h
  ·rename_i d v aN
   obtain ⟨ax,aU,ar⟩:=Dj (J:=kH) (P:=P) aN;have qk:t8 d N=true:=by simpa [an3] using aU
   rcases ar with ⟨av,aw⟩|⟨av,rfl⟩|⟨av,aw⟩
   ·exact aa.pure aP av ax qk aw (a1 h)
   ·exact aa.skip av ax qk (a1 h)
   ·exact aa.op av ax qk (aw s trivial) (fun x aj ⟨U,ad⟩=>by subst U;subst ad;exact a1 h) (fun _ _ h=>h.elim)
  ·simp only [Prod.mk.injEq] at h;obtain ⟨rfl,rfl⟩:=h;exact aE
theorem aa.Dk {l:List Oper} (t:Nat) {v ff:ag} (aw:env.get? t=some v) (he:v=ff) (h:aa P N ops l Q ((t,ff)::env) s):aa P N ops l Q env s:=by
 subst he;intro k aE ro B a w p aI
 exact h k aE ro B a w p ⟨aI.size,fun u x ab=>by
  simp only [Env.get?] at ab
  split at ab
  ·rename_i an;have:=ae0 an;subst this;cases ab;exact aI.env _ _ aw
  ·exact aI.env u x ab,aI.wf,aI.defs,aI.round,aI.base⟩
theorem aa.dY {l:List Oper} (t:Nat) {b:Bool} (aw:env.get? t=some (.bool b)) (he:b=true) (h:aa P N ops l Q ((t,.bool true)::env) s):aa P N ops l Q env s:=aa.Dk t aw (ae7 ag.bool he) h
theorem aa.dh {l:List Oper} (t:Nat) {b:Bool} (aw:env.get? t=some (.bool b)) (he:b=false) (h:aa P N ops l Q ((t,.bool false)::env) s):aa P N ops l Q env s:=aa.Dk t aw (ae7 ag.bool he) h
theorem aa.sub {l:List Oper} (e:Env) (ar:Env.Sub e env) (h:aa P N ops l Q e s):aa P N ops l Q env s:=
 fun k aE ro B a w p aI=>h k aE ro B a w p (aI.sub ar)
theorem aa.drop {l:List Oper} (aj:ao) (ar:ao.Sub aj s) (h:aa P N ops l Q env aj):aa P N ops l Q env s:=
 fun k aE ro B a w p aI=>v7 (fun _ _ _ (q:kz N B ro aj w p Q _ _ _)=>let ⟨x,e0,eO,bj,U,ad,al,bf,bE⟩:=q;⟨x,e0,eO,bj,U,ad,al,bf,bE.ym ar⟩) _ _ _ (h k aE ro B a w p (aI.FV ar))
end
def bZ (m:Nat):Nat→Bool:=fun i=>m.testBit i
theorem pA (m i:Nat):ei (bZ m) i=bZ (m|||2^i):=by
 funext j;unfold ei bZ;rw [am4,al7];by_cases e:j=i
 ·subst e;simp
 ·have e':¬ i=j:=fun h=>e h.symm
  simp [e,e']
def iI (ops:Array Oper) (m i:Nat):Bool:=match ops[i]? with
 | none=>false
 | some o => !(m.testBit i)&&(wG o).all fun j=>m.testBit j
theorem tw {ops:Array Oper} {m i:Nat}:iI ops m i=true↔hq ops (bZ m) i:=by
 unfold iI hq bZ;constructor
 ·intro h
  split at h
  ·cases h
  ·rename_i o ai
   simp only [f8,ai5,ah2] at h;exact ⟨(i9.1 ai).1,h.1,fun j aL=>h.2 j ((Di ai).2 aL)⟩
 ·rintro ⟨U,ad,al⟩
  have ai:ops[i]? = some ops[i]:=at6 U;rw [ai];simp only [ad,Bool.not_false,f5,ah2];exact fun j aL=>al j ((Di ai).1 aL)
def eJ (ops:Array Oper) (m:Nat):List Nat→List Nat
  | []=>[]
  | i::is=>match iI ops m i with
    | true=>i::eJ ops m is
    | false=>eJ ops m is
theorem AA {ops:Array Oper} {m i:Nat} {l:List Nat} (h:hq ops (bZ m) i) (aR:i∈l):i∈eJ ops m l:=by
 induction l with
 | nil=>cases aR
 | cons j l a1=>
  simp only [eJ];rcases af2.1 aR with rfl|aR
  ·rw [tw.2 h];exact i6 ..
  ·split
   ·exact i0 _ (a1 aR)
   ·exact a1 aR
def rj (Γ:cA) (N:Nat) (ops:Array Oper):List Nat→Nat→Env→Nat×Env
  | [],m,env=>(m,env)
  | i::is,m,env=>match ops[i]? with
    | none=>rj Γ N ops is m env
    | some o=>match iI ops m i with
      | false=>rj Γ N ops is m env
      | true=>match wJ Γ N ops (iH env (looks ops o)) o with
        | some (d,v)=>match m|||2^i with
          | 0=>rj Γ N ops is 0 ((d,v)::env)
          | k+1=>rj Γ N ops is (k+1) ((d,v)::env)
        | none=>rj Γ N ops is m env
def idxs:Nat→List Oper→List Nat
 | _,[]=>[]
 | k,_::l=>k::idxs (k+1) l
theorem yE (k:Nat) (l:List Oper):idxs k l=ay8 k l.length:=by
 induction l generalizing k with
 | nil=>rfl
 | cons o l a1=>simp [idxs,a1,ax8]
section
variable {J:ao→Prop} {P:Program} {Γ:cA} {N:Nat} {l:List Oper} {Q:b9→Env→ao→Prop} {env:Env} {s:ao} {m:Nat}
theorem bg.runs (cO:J s) {is:List Nat} {iw:Nat} {e0:Env} (h:rj Γ N l.toArray is m env=(iw,e0)) (aE:bg J P Γ N l.toArray Q (bZ iw) e0 s):bg J P Γ N l.toArray Q (bZ m) env s:=by
 induction is generalizing m env with
 | nil=>simp only [rj,Prod.mk.injEq] at h;obtain ⟨rfl,rfl⟩:=h;exact aE
 | cons i is a1=>
  simp only [rj] at h;split at h
  ·exact a1 h
  ·rename_i o ai
   split at h
   ·exact a1 h
   ·rename_i aD
    split at h
    ·rename_i d v aN
     obtain ⟨ax,aU,ar⟩:=Dj aN;refine bg.still cO i o d v (tw.1 aD) ai ax aU ar ?_;rw [pA];split at h
     ·rename_i bq;rw [bq];exact a1 h
     ·rename_i k bq;rw [bq];exact a1 h
    ·exact a1 h
theorem bc.runs {is:List Nat} {iw:Nat} {e0:Env} (h:rj Γ N l.toArray is m env=(iw,e0)) (aE:bc P Γ N l.toArray Q (bZ iw) e0 s):bc P Γ N l.toArray Q (bZ m) env s:=bg.runs trivial h aE
theorem bg.run (cO:J s) {iw:Nat} {e0:Env} (h:rj Γ N l.toArray (idxs 0 l) m env=(iw,e0)) (aE:bg J P Γ N l.toArray Q (bZ iw) e0 s):bg J P Γ N l.toArray Q (bZ m) env s:=bg.runs cO h aE
theorem bc.run {iw:Nat} {e0:Env} (h:rj Γ N l.toArray (idxs 0 l) m env=(iw,e0)) (aE:bc P Γ N l.toArray Q (bZ iw) e0 s):bc P Γ N l.toArray Q (bZ m) env s:=bg.runs trivial h aE
theorem bc.done (eI:(idxs 0 l).all (fun i=>m.testBit i)=true) (h:Q .normal env s):bg J P Γ N l.toArray Q (bZ m) env s:=by
 refine bg.fin (fun i aR=>?_) h;simp only [ah2] at eI;refine eI i ?_;rw [yE,aq7];have:i<l.length:=by simpa using aR
 omega
def kI (ops:Array Oper) (i:Nat):Bool:=(ag3 ops.size).all fun j=>af0 j i||(ri (wI ops.toList []) i).testBit j
theorem Dl {ops:Array Oper} {i:Nat} (h:kI ops i=true):∀ j,j<ops.size→j≠i→lE ops i j:=by
 intro j aL cJ;simp only [kI,ah2] at h;have:=h j (ak5.2 aL);have an:af0 j i=false:=by
  cases an:af0 j i with
  | false=>rfl
  | true=>exact absurd (ae0 an) cJ
 rw [an,ag6] at this;refine La ops.toList [] (fun i=>by simp) (fun i j h=>?_) i j this;have:ri [] i=0:=by cases i<;>rfl
 rw [this] at h;simp at h
theorem bg.one {i:Nat} {o:Oper} {d:Nat} {K X:ag→ao→Prop} (aD:eJ l.toArray m (idxs 0 l)=[i]) (ai:l.toArray[i]? = some o) (ax:o.dst=some d) (aU:t8 d N=true)
  (av:c6 l env o) (h:aZ P N o (b4 l env o) s K X)
  (aL:∀ x aj,K x aj→J aj∨kI l.toArray i=true) (aE:∀ x aj,K x aj→bg J P Γ N l.toArray Q (bZ (m|||2^i)) ((d,x)::env) aj) (ab:∀ x aj,X x aj→Q (.panic x) [] aj):bg J P Γ N l.toArray Q (bZ m) env s:=by
 have fy:∀ j,hq l.toArray (bZ m) j→j=i:=fun j aL=>by
  have:=AA aL (l:=idxs 0 l) (by rw [yE,aq7];have:=aL.1;simp at this;omega);rw [aD] at this;simpa using this
 have jm:hq l.toArray (bZ m) i:=by
  have fH:i∈eJ l.toArray m (idxs 0 l):=by rw [aD];exact i6 ..
  have:∀ is,i∈eJ l.toArray m is→iI l.toArray m i=true:=by
   intro is
   induction is with
   | nil=>intro h;cases h
   | cons j is a1=>
    intro h;simp only [eJ] at h;split at h
    ·rename_i an
     rcases af2.1 h with rfl|h
     ·exact an
     ·exact a1 h
    ·exact a1 h
  exact tw.1 (this _ fH)
 refine bg.split (fun _=>K) (fun _=>X) ⟨i,jm.1,jm.2.1⟩ (fun j o' aL cD=>?_) (fun j o' wK cD x aj bk=>by have:=fy j wK;subst this;exact (aL x aj bk).imp id Dl) (fun j o' c9 aL cD cp x aj bk=>?_) (fun j o' aL cD cp x aj bk=>?_) (fun j o' aL cD x aj hg=>ab x aj hg)
 ·have:=fy j aL;subst this
  rw [ai] at cD;cases cD;exact ⟨av,h,fun c9 cp=>by rw [ax] at cp;cases cp;simpa [an3] using aU⟩
 ·have:=fy j aL;subst this
  rw [ai] at cD;cases cD;rw [ax] at cp;cases cp;rw [pA];exact aE x aj bk
 ·have:=fy j aL;subst this
  rw [ai] at cD;cases cD;rw [ax] at cp;cases cp
theorem bg.yF {i:Nat} {o:Oper} {K X:ag→ao→Prop} (aD:eJ l.toArray m (idxs 0 l)=[i]) (ai:l.toArray[i]? = some o) (ax:o.dst=none)
  (av:c6 l env o) (h:aZ P N o (b4 l env o) s K X)
  (aL:∀ x aj,K x aj→J aj∨kI l.toArray i=true) (aE:∀ x aj,K x aj→bg J P Γ N l.toArray Q (bZ (m|||2^i)) env aj) (ab:∀ x aj,X x aj→Q (.panic x) [] aj):bg J P Γ N l.toArray Q (bZ m) env s:=by
 have fy:∀ j,hq l.toArray (bZ m) j→j=i:=fun j aL=>by
  have:=AA aL (l:=idxs 0 l) (by rw [yE,aq7];have:=aL.1;simp at this;omega);rw [aD] at this;simpa using this
 have au:i<l.toArray.size:=(i9.1 ai).1;have pB:bZ m i=false:=by
  cases an:bZ m i with
  | false=>rfl
  | true=>
   have fH:i∈eJ l.toArray m (idxs 0 l):=by rw [aD];exact i6 ..
   have:∀ is,i∈eJ l.toArray m is→iI l.toArray m i=true:=by
    intro is
    induction is with
    | nil=>intro h;cases h
    | cons j is a1=>
     intro h;simp only [eJ] at h;split at h
     ·rename_i an
      rcases af2.1 h with rfl|h
      ·exact an
      ·exact a1 h
     ·exact a1 h
   have:=(tw.1 (this _ fH)).2.1;rw [an] at this;cases this
 refine bg.split (fun _=>K) (fun _=>X) ⟨i,au,pB⟩ (fun j o' aL cD=>?_) (fun j o' wK cD x aj bk=>by have:=fy j wK;subst this;exact (aL x aj bk).imp id Dl) (fun j o' c9 aL cD cp x aj bk=>?_) (fun j o' aL cD cp x aj bk=>?_) (fun j o' aL cD x aj hg=>ab x aj hg)
 ·have:=fy j aL;subst this
  rw [ai] at cD;cases cD;exact ⟨av,h,fun c9 cp=>by rw [ax] at cp;cases cp⟩
 ·have:=fy j aL;subst this
  rw [ai] at cD;cases cD;rw [ax] at cp;cases cp
 ·have:=fy j aL;subst this
  rw [ai] at cD;cases cD;rw [pA];exact aE x aj bk
theorem bc.one {i:Nat} {o:Oper} {d:Nat} {K X:ag→ao→Prop} (aD:eJ l.toArray m (idxs 0 l)=[i]) (ai:l.toArray[i]? = some o) (ax:o.dst=some d) (aU:t8 d N=true)
  (av:c6 l env o) (h:aZ P N o (b4 l env o) s K X)
  (aE:∀ x aj,K x aj→bc P Γ N l.toArray Q (bZ (m|||2^i)) ((d,x)::env) aj) (ab:∀ x aj,X x aj→Q (.panic x) [] aj):bc P Γ N l.toArray Q (bZ m) env s:=
 bg.one aD ai ax aU av h (fun _ _ _ => .inl trivial) aE ab
theorem bc.yF {i:Nat} {o:Oper} {K X:ag→ao→Prop} (aD:eJ l.toArray m (idxs 0 l)=[i]) (ai:l.toArray[i]? = some o) (ax:o.dst=none)
  (av:c6 l env o) (h:aZ P N o (b4 l env o) s K X)
  (aE:∀ x aj,K x aj→bc P Γ N l.toArray Q (bZ (m|||2^i)) env aj) (ab:∀ x aj,X x aj→Q (.panic x) [] aj):bc P Γ N l.toArray Q (bZ m) env s:=
 bg.yF aD ai ax av h (fun _ _ _ => .inl trivial) aE ab
theorem bc.congr {ops:Array Oper} {D:Nat→Bool} (e:Env) (he:∀ t,e.get? t=env.get? t) (h:bc P Γ N ops Q D e s):bc P Γ N ops Q D env s:=bg.congr e he h
theorem ae.nf (J:ao→Prop) (aP:bQ P Γ) (hm:P.follows .mixedOrders=true) {id:Nat} (dK:sf l.toArray=true) (h:bg J P Γ N l.toArray Q (bZ 0) env s):ae P N (.region id l.toArray true) Q env s:=by
 refine ae.draw (J:=J) aP hm (Gx dK) ?_;have:bZ 0=fun _=>false:=by funext i;simp [bZ]
 rw [this] at h;exact h
theorem ae.rk (aP:bQ P Γ) (hm:P.follows .mixedOrders=true) {id:Nat} (dK:sf l.toArray=true) (h:bc P Γ N l.toArray Q (bZ 0) env s):ae P N (.region id l.toArray true) Q env s:=by
 refine ae.draw (J:=kH) aP hm (Gx dK) ?_;have:bZ 0=fun _=>false:=by funext i;simp [bZ]
 rw [this] at h;exact h
end
end Go.Proofs.YtnafpeohfbglmaaGreat
