import Derived.AtR
import Derived.Defers
import Derived.Laws.Sem
import Derived.Laws.World
import Derived.Laws.NewBlocks
import Derived.Laws.Cells
import Derived.Laws.Strings
import Derived.Laws.Tables
import Derived.Laws.Small
import Derived.LaidEql
import Derived.Laws.Append
import Derived.Laws.CopyRow
import Derived.Laws.Slices
import Derived.Laws.IdiomStrings
import Derived.Orders
set_option linter.unusedVariables false
set_option linter.unusedSimpArgs false
universe u
open Array renaming all_eq_true'→aE7,ext'→at',foldl_toList→aA3,getD_eq_getD_getElem?→ak1,getElem?_append_left→aw7,getElem?_eq_getElem→au6,getElem?_eq_some_iff→t6,getElem?_push→aD7,getElem?_setIfInBounds→aj9,length_toList→ai8,replicate→ao',toList_extract→az5,toList_push→aw2
open Bool renaming and_eq_true→d6,false_eq_true→aj2,false_or→ak4,not_eq_true'→aj7,not_true→an5,true_and→i8
open Int renaming ofNat→aA2
open List renaming all_eq_true→ai4,append_assoc→aj0,drop_nil→aH4,drop_succ_cons→az7,eq_nil_of_length_eq_zero→ak7,flatMap_cons→am0,flatMap→aI4,foldl_cons→ak9,getElem?_append_left→ak3,getElem?_append_right→ak0,getElem?_cons_succ→at3,getElem?_eq_some_iff→ac',getElem?_map→aj6,getElem?_take→al',length_append→f0,length_cons→i9,length_drop→an0,length_take→ah',mapM_cons→aC4,map_cons→ai2,map_nil→aj5,map_toArray→au',mem_append→ab',mem_cons_of_mem→f9,mem_cons_self→g8,mem_cons→ai1,mem_filter→aj1,mem_map→ae',mem_of_mem_take→au4,mem_range'_1→aw1,mem_range→al4,mem_singleton→i7,nil_append→d0,nodup_cons→ar3,range'_succ→aF7,range'→aE',range→ak6,replicate→ai0,size_toArray→ap2,take_left→ay2,take_nil→aH3,zipIdx_cons→aB4
open Nat renaming add_assoc→at1,add_comm→as9,add_mul→ao2,add_zero→as8,beq_refl→ay',beq→aj4,ble→ar4,blt_eq→as4,blt→af',eq_of_beq_eq_true→ai3,le_of_ble_eq_true→as6,le_refl→t7,le_trans→al7,lt_of_lt_of_le→ap5,lt_trichotomy→av9,mul_le_mul_right→ao8,strongRecOn→aG0,testBit_or→aq8,testBit_two_pow→ap9,zero_add→aj8
open Option renaming bind_some→ar6,getD_some→al1,isSome_none→aD8,map_eq_some_iff→ay7,map_some→an8,some→ap7
open Go.Result renaming andThen_ok→i0
open Go.Sem renaming runT_eq→ay6,run_bind→H1,run_pure→ai5,run→ay0
namespace Go.Proofs.YtimbpjfhekcofaaGreat
theorem f4 {c:Prop} {h:Decidable c} (k:¬c) {α:Sort _} {t e:α}:(if c then t else e)=e:=if_neg k
theorem f7 {c:Prop} {h:Decidable c} (k:c) {α:Sort _} {t e:α}:(if c then t else e)=t:=if_pos k
theorem i6 {p:Prop} [h:Decidable p] (k:p):decide p=true:=decide_eq_true k
theorem M2 {p:Prop} [h:Decidable p] (k:¬p):decide p=false:=decide_eq_false k
theorem ak2 {α:Sort _} {h:Decidable True} (t e:α):(if True then t else e)=t:=if_true t e
theorem al0 {α:Sort _} {h:Decidable False} (t e:α):(if False then t else e)=e:=if_false t e
theorem ak5 {α:Sort _} {β:Sort _} {a b:α} (f:α→β) (h:a=b):f a=f b:=congrArg f h
theorem ao7 {α:Type _} [BEq α] [LawfulBEq α] {a b:α}:(a==b)=true↔a=b:=beq_iff_eq
theorem ao4 {p:Prop} [h:Decidable p] (k:decide p=true):p:=of_decide_eq_true k
theorem f5 {p:Prop} [h:Decidable p]:(decide p=true)=p:=decide_eq_true_eq
theorem C {α:Sort u} {a:α}:a=a:=Eq.refl a
theorem yE {p:Prop} (h:p:=by rw [List.length_take,cm];omega):p:=h
theorem wE {p:Prop} (h:p:=by rw [List.length_take];omega):p:=h
theorem uY {p:Prop} (h:p:=by simpa using aa):p:=h
theorem fG {p:Prop} (h:p:=by simpa using h):p:=h
theorem ez {p:Prop} (h:p:=by simp;omega):p:=h
theorem nA {p:Prop} (h:p:=by cases h):p:=h
theorem ak {p:Prop} (h:p:=by omega):p:=h
theorem bc {p:Prop} (h:p:=by simp):p:=h
inductive hx where
 | normal
 | exit (id:Nat)
 | ret
 | panic (chain:List PanicEntry)
def rk (P:Program) (m:Machine) (b:Frame) (k:List Item) (cs:List Frame):hx→Act→World→Prop
  | .normal,a,w=>Steps P m (lone (b.atR a k) cs w)
  | .exit id,a,w=>(∀ k',exitTo id k=some k'→Steps P m (lone (b.atR a k') cs w)) ∧
      (exitTo id k=none→∃ k₁,exitTo id k₁=none∧Steps P m (lone (b.atR a (.code (.exit id)::k₁)) cs w))
  | .ret,a,w=>∃ k₁,Steps P m (lone (b.atR a (.code .ret::k₁)) cs w)
  | .panic dC,a,w=>∃ k₁,Steps P m (lone { b.atR a k₁ with mode := .panicking dC } cs w)
theorem rk.of_steps {P:Program} {m m₁:Machine} {b:Frame} {k:List Item} {cs:List Frame} {e:hx} {a:Act} {w:World}
  (h:Steps P m m₁) (eA:rk P m₁ b k cs e a w):rk P m b k cs e a w:=by
 cases e with
 | normal=>exact h.trans eA
 | exit id=>exact ⟨fun k' ax=>h.trans (eA.1 k' ax),fun ax=>let ⟨k₁,U,ad⟩:=eA.2 ax;⟨k₁,U,h.trans ad⟩⟩
 | ret=>obtain ⟨k₁,al⟩:=eA;exact ⟨k₁,h.trans al⟩
 | panic dC=>obtain ⟨k₁,al⟩:=eA;exact ⟨k₁,h.trans al⟩
def ka (P:Program) (b:Frame) (c:Code) (Q:hx→Act→World→Prop) (a:Act) (w:World):Prop:=
 ∀ (k:List Item) (cs:List Frame),∃ e dm w',Q e dm w'∧rk P (lone (b.atR a (.code c::k)) cs w) b k cs e dm w'
section rules
variable {P:Program} {b:Frame} {Q:hx→Act→World→Prop} {a:Act} {w:World}
theorem mN {c:Code} {pK:hx→Act→World→Prop} (h:ka P b c Q a w) (bf:∀ e a w,Q e a w→pK e a w):ka P b c pK a w:=
 fun k cs=>let ⟨e,dm,w',q,r⟩:=h k cs;⟨e,dm,w',bf _ _ _ q,r⟩
theorem T9 (h:Q .normal a w):ka P b .skip Q a w:=fun _ _=>⟨.normal,a,w,h,.one stepR_skip⟩
theorem Ua (h:Q .ret a w):ka P b .ret Q a w:=fun k _=>⟨.ret,a,w,h,k,.refl P _⟩
theorem Ub {id:Nat} (h:Q (.exit id) a w):ka P b (.exit id) Q a w:=
 fun k _=>⟨.exit id,a,w,h,fun _ ax => .one (stepR_exit ax),fun ax=>⟨k,ax,.refl P _⟩⟩
def hx.andThen (next:Act→World→Prop) (Q:hx→Act→World→Prop):hx→Act→World→Prop
 | .normal,a,w=>next a w
 | e,a,w=>Q e a w
theorem rk.Lo {m:Machine} {c:Code} {k:List Item} {cs:List Frame} {e:hx} {a:Act} {w:World} (x:Item) (aa:x.plain=true)
  (he:e ≠ .normal) (h:rk P m b (x::k) cs e a w):rk P m b k cs e a w:=by
 cases e with
 | normal=>exact absurd C he
 | exit id=>exact ⟨fun k' ax=>h.1 k' (by cases x<;>simp_all [exitTo,Item.plain]),fun ax=>h.2 (by cases x<;>simp_all [exitTo,Item.plain])⟩
 | ret=>exact h
 | panic dC=>exact h
theorem Uc {x y:Code} (h:ka P b x (hx.andThen (ka P b y Q) Q) a w):ka P b (.seq x y) Q a w:=by
 intro k cs;obtain ⟨e,i',w₁,bf,fW⟩:=h (.code y::k) cs;by_cases he:e = .normal
 ·subst he
  obtain ⟨Ax,CZ,hU,uZ,u0⟩:=bf k cs;exact ⟨Ax,CZ,hU,uZ,.of_steps (.head stepR_seq fW) u0⟩
 ·have Ay:Q e i' w₁:=by cases e<;>first|exact absurd C he|exact bf
  exact ⟨e,i',w₁,Ay,.of_steps (.one stepR_seq) (rk.Lo (c:=y) (.code y) C he fW)⟩
theorem Ud {c:Operand} {x y:Code} {t:Bool} (aw:a.eval c = .bool t) (h:ka P b (if t then x else y) Q a w):ka P b (.cond c x y) Q a w:=
 fun k cs=>let ⟨e,dm,w',q,r⟩:=h k cs;⟨e,dm,w',q,.of_steps (.one (stepR_cond aw)) r⟩
def hx.inBlock (id:Nat) (Q:hx→Act→World→Prop):hx→Act→World→Prop
 | .exit k9,a,w=>if k9=id then Q .normal a w else Q (.exit k9) a w
 | e,a,w=>Q e a w
theorem Ue {id:Nat} {c:Code} (h:ka P b c (hx.inBlock id Q) a w):ka P b (.block id c) Q a w:=by
 intro k cs;obtain ⟨e,i',w₁,bf,fW⟩:=h (.inBlock id::k) cs;cases e with
 | normal=>exact ⟨.normal,i',w₁,bf,.head stepR_block (Steps.trans fW (.one stepR_inBlock))⟩
 | exit k9=>
  by_cases tv:k9=id
  ·simp only [hx.inBlock,tv,ak2] at bf
   exact ⟨.normal,i',w₁,bf,.head stepR_block (fW.1 k (by simp [exitTo,tv]))⟩
  ·simp only [hx.inBlock,tv,al0] at bf
   have cN:(id==k9)=false:=by simp;exact fun h=>tv h.symm
   refine ⟨.exit k9,i',w₁,bf,fun k' ax => .head stepR_block (fW.1 k' (by simp [exitTo,cN,ax])),fun ax=>?_⟩;obtain ⟨k₁,U,ad⟩:=fW.2 (by simp [exitTo,cN,ax]);exact ⟨k₁,U,.head stepR_block ad⟩
 | ret=>obtain ⟨k₁,al⟩:=fW;exact ⟨.ret,i',w₁,bf,k₁,.head stepR_block al⟩
 | panic dC=>obtain ⟨k₁,al⟩:=fW;exact ⟨.panic dC,i',w₁,bf,k₁,.head stepR_block al⟩
end rules
def Round (P:Program) (l:Nat) (f:FuncId) (tmps:Array Value) (hl body:Code) (w:World) (R:Ending→World→Prop):Prop:=
 ∀ (c:Frame) (cs:List Frame),∃ e w',R e w' ∧
  match e with
  | .returned v=>Steps P (lone (Frame.round l f tmps hl body .normal) (c::cs) w) (lone (c.finish v) cs w')
  | .panicked dC=>Steps P (lone (Frame.round l f tmps hl body .normal) (c::cs) w) (lone (c.raise dC) cs w')
  | .outgrown=>False
def tw (P:Program) (f:FuncId) (args:Array Value) (w:World) (R:Ending→World→Prop):Prop:=
 Calls P f args w fun e w'=>e ≠ .outgrown∧R e w'
theorem tw.mono {P:Program} {f:FuncId} {args:Array Value} {w:World} {R c':Ending→World→Prop} (h:tw P f args w R)
  (aC:∀ e w',R e w'→c' e w'):tw P f args w c':=Calls.mono h fun e w' ⟨U,ad⟩=>⟨U,aC e w' ad⟩
def Az (P:Program) (n6:Next) (w:World) (R:Ending→World→Prop):Prop:=
 match n6 with
 | .value v=>R (.returned v) w
 | .skip=>R (.returned undef) w
 | .enter f args=>tw P f args w R
 | .round l f tmps hl body=>Round P l f tmps hl body w R
 | _=>False
def qs (P:Program) (r:Result Next) (R:Ending→World→Prop):Prop:=
 match r with
 | .ok n6 w'=>Az P n6 w' R
 | .halt (.panic v) w'=>R (.panicked [{ v,recovered:=false }]) w'
 | _=>False
theorem Round.mono {P:Program} {l:Nat} {f:FuncId} {tmps:Array Value} {hl body:Code} {w:World} {R c':Ending→World→Prop}
  (h:Round P l f tmps hl body w R) (aC:∀ e w',R e w'→c' e w'):Round P l f tmps hl body w c' :=
 fun c cs=>let ⟨e,w',r,s⟩:=h c cs;⟨e,w',aC _ _ r,s⟩
theorem Az.mono {P:Program} {n6:Next} {w:World} {R c':Ending→World→Prop} (h:Az P n6 w R)
  (aC:∀ e w',R e w'→c' e w'):Az P n6 w c':=by
 cases n6<;>first|exact aC _ _ h|exact tw.mono h aC|exact Round.mono h aC|exact h.elim
theorem qs.mono {P:Program} {r:Result Next} {R c':Ending→World→Prop} (h:qs P r R) (aC:∀ e w',R e w'→c' e w'):qs P r c':=by
 unfold qs at h ⊢;split at h
 ·exact Az.mono h aC
 ·exact aC _ _ h
 ·exact h.elim
def gS (o:Oper):Bool:=match o.op with | .defer _=>false|_=>true
section ops
variable {P:Program} {b:Frame} {a:Act} {k:List Item} {cs:List Frame} {w:World} {ops:Array Oper}
theorem Uf {i:Nat} {rest:List Nat} {o:Oper} {R:Ending→World→Prop} (ai:ops[i]? = some o) (hw:Region.wanted o (yielded ops a.tmps)=true)
  (aA:gS o=true) (h:qs P ((execOp a.eval o).run P w) R) :
  ∃ e w',R e w' ∧
   match e with
   | .returned v=>Steps P (lone (b.atR a (.inRegion ops (i::rest)::k)) cs w) (lone (b.atR (a.put o.dst v) (.inRegion ops rest::k)) cs w')
   | .panicked dC=>∃ k₁,Steps P (lone (b.atR a (.inRegion ops (i::rest)::k)) cs w) (lone { b.atR a k₁ with mode := .panicking dC } cs w')
   | .outgrown=>False:=by
 have ay:=stepGR_op (P:=P) (b:=b) (k:=k) (cs:=cs) (w:=w) (rest:=rest) ai hw;have Ug:o.semAt b.roundOf a.eval=execOp a.eval o:=Oper.semAt_eq _ _ _ (fun c aw=>by simp [gS,aw] at aA);rw [Ug] at ay;have pL:∀ v,(b.atR a (.inRegion ops (i::rest)::k)).finish v=b.atR (a.put o.dst v) (.inRegion ops rest::k):=by
  intro v;rw [Frame.finish_atR,ai];rfl
 unfold qs at h;split at h
 ·rename_i n6 w' aC
  cases n6 with
  | value v=>
   refine ⟨.returned v,w',h,.one (step_lone_go ?_)⟩;rw [ay,← pL];simp [stepG.apply,aC]
  | skip=>
   refine ⟨.returned undef,w',h,.one (step_lone_go ?_)⟩;rw [ay,← pL];simp [stepG.apply,aC]
  | enter f args=>
   obtain ⟨e,mO,hn,⟨mP,e4⟩,tx,_,AA⟩:=h (b.atR a (.inRegion ops (i::rest)::k)::cs);have tz:step P (lone (b.atR a (.inRegion ops (i::rest)::k)) cs w) =
     .next (lone (Frame.enter P f args .normal) (b.atR a (.inRegion ops (i::rest)::k)::cs) w'):=
    step_lone_go (by rw [ay];simp [stepG.apply,aC,Frame.atR])
   cases e with
   | returned v=>
    refine ⟨.returned v,mO,e4,.head tz (tx.trans (.one ?_))⟩;rw [← pL];exact step_leave_returned AA
   | panicked dC=>
    refine ⟨.panicked dC,mO,e4,.inRegion ops (i::rest)::k,.head tz (tx.trans (.one ?_))⟩;rw [← Frame.raise_atR];exact step_leave_panicked AA
   | outgrown=>exact absurd C mP
  | round l f tmps hl body=>
   obtain ⟨e,mO,e4,tx⟩:=h (b.atR a (.inRegion ops (i::rest)::k)) cs;have tz:step P (lone (b.atR a (.inRegion ops (i::rest)::k)) cs w) =
     .next (lone (Frame.round l f tmps hl body .normal) (b.atR a (.inRegion ops (i::rest)::k)::cs) w'):=
    step_lone_go (by rw [ay];simp [stepG.apply,aC,Frame.atR])
   cases e with
   | returned v=>exact ⟨.returned v,mO,e4,.head tz (by rw [← pL];exact tx)⟩
   | panicked dC=>exact ⟨.panicked dC,mO,e4,.inRegion ops (i::rest)::k,.head tz (by rw [← Frame.raise_atR];exact tx)⟩
   | outgrown=>exact tx.elim
  | _=>exact h.elim
 ·rename_i v w' aC
  refine ⟨.panicked [{ v,recovered:=false }],w',h,.inRegion ops (i::rest)::k,.one (step_lone_go ?_)⟩;rw [ay,← Frame.raise_atR];simp [stepG.apply,aC]
 ·exact h.elim
end ops
def ku (P:Program) (ops:Array Oper) (Q:hx→Act→World→Prop):List Nat→Act→World→Prop
 | [],a,w=>Q .normal a w
 | i::rest,a,w=>
  match ops[i]? with
  | none=>ku P ops Q rest a w
  | some o=>
   if Region.wanted o (yielded ops a.tmps) then
    gS o=true∧qs P ((execOp a.eval o).run P w) fun
     | .returned v,w'=>ku P ops Q rest (a.put o.dst v) w'
     | .panicked dC,w'=>Q (.panic dC) a w'
     | .outgrown,_=>False
   else ku P ops Q rest (a.put o.dst undef) w
theorem Lp {P:Program} {ops:Array Oper} {Q:hx→Act→World→Prop} (b:Frame) (k:List Item) (cs:List Frame) (l:List Nat) :
  ∀ (a:Act) (w:World),ku P ops Q l a w→∃ e dm w',Q e dm w'∧rk P (lone (b.atR a (.inRegion ops l::k)) cs w) b k cs e dm w':=by
 induction l with
 | nil=>exact fun a w h=>⟨.normal,a,w,h,.one stepR_region_end⟩
 | cons i rest a8=>
  intro a w h;simp only [ku] at h;cases ai:ops[i]? with
  | none=>
   simp only [ai] at h;obtain ⟨e,dm,w',bf,fW⟩:=a8 a w h;have al:=stepR_op_skip (P:=P) (b:=b) (a:=a) (k:=k) (cs:=cs) (w:=w) (ops:=ops) (i:=i) (rest:=rest) (by simp [ai]);simp only [ai,Option.bind_none,Act.put] at al;exact ⟨e,dm,w',bf,.of_steps (.one al) fW⟩
  | some o=>
   simp only [ai] at h;by_cases hw:Region.wanted o (yielded ops a.tmps)=true
   ·simp only [hw,ak2] at h
    obtain ⟨e,w',e4,aI⟩:=Uf (b:=b) (k:=k) (cs:=cs) (rest:=rest) ai hw h.1 h.2;cases e with
    | returned v=>
     obtain ⟨e,dm,mO,bf,fW⟩:=a8 _ _ e4;exact ⟨e,dm,mO,bf,.of_steps aI fW⟩
    | panicked dC=>exact ⟨.panic dC,a,w',e4,aI⟩
    | outgrown=>exact aI.elim
   ·simp only [hw,al0,aj2] at h
    obtain ⟨e,dm,w',bf,fW⟩:=a8 _ _ h;have al:=stepR_op_skip (P:=P) (b:=b) (a:=a) (k:=k) (cs:=cs) (w:=w) (ops:=ops) (i:=i) (rest:=rest)
     (by simp [ai];simpa using hw)
    simp only [ai,ar6] at al;exact ⟨e,dm,w',bf,.of_steps (.one al) fW⟩
theorem Uh {P:Program} {b:Frame} {id:Nat} {ops:Array Oper} {Q:hx→Act→World→Prop} {a:Act} {w:World}
  (h:ku P ops Q (ak6 ops.size) a w):ka P b (.region id ops false) Q a w:=
 fun k cs=>let ⟨e,dm,w',q,r⟩:=Lp b k cs _ a w h;⟨e,dm,w',q,.of_steps (.one stepR_region) r⟩
theorem Ui {P:Program} {b:Frame} {id:Nat} {ops:Array Oper} {Q:hx→Act→World→Prop} {a:Act} {w:World}
  (h:∀ t,ku P ops Q (Region.schedule (P.follows .mixedOrders) ops t) a { w with drawn:=w.drawn+1 }):ka P b (.region id ops true) Q a w:=
 fun k cs=>let ⟨e,dm,w',q,r⟩:=Lp b k cs _ a _ (h _);⟨e,dm,w',q,.of_steps (.one stepR_region_draw) r⟩
def hy (w:World):List Nat→World
 | []=>w
 | d::cb=>hy { w with heap:=w.heap.setIfInBounds d (.deferred none) } cb
def marksOf (cb:List Nat):List Deferred:=cb.map fun d=>{ target := .collected d,args := #[] }
theorem Gp {P:Program} {cs:List Frame}:∀ (cb:List Nat) (hn:Frame) (w:World),hn.mode ≠ .run→hn.defers=marksOf cb →
  (∀ d∈cb,w.heap[d]? = some (.deferred (some [])))→cb.Nodup→Steps P (lone hn cs w) (lone { hn with defers:=[] } cs (hy w cb)):=by
 intro cb
 induction cb with
 | nil=>
  intro hn w _ aA _ _;have:({ hn with defers:=[] }:Frame)=hn:=by cases hn;simp_all [marksOf]
  rw [this];exact .refl P _
 | cons d cb a8=>
  intro hn w hm aA aq av;have n7:w.heap[d]? = some (.deferred (some [])):=aq d (g8 ..);have aN:(Instr.takeDeferred d).run P w = .ok [] { w with heap:=w.heap.setIfInBounds d (.deferred none) }:=by
   unfold Instr.takeDeferred;simp only [H1,getObj,setObj,ay0,n7,Result.andThen];rfl
  have U:step P (lone hn cs w) = .next (lone { hn with defers:=marksOf cb } cs { w with heap:=w.heap.setIfInBounds d (.deferred none) }):=by
   refine step_lone_go ?_;cases wF:hn.mode with
   | run=>exact absurd wF hm
   | returning=>simp [stepG,unwind,wF,aA,marksOf,ay6,aN]
   | panicking chain=>simp [stepG,unwind,wF,aA,marksOf,ay6,aN]
  have eK:=ar3.1 av;refine .head U (a8 { hn with defers:=marksOf cb } _ hm C ?_ eK.2);intro db cH;have cN:d≠db:=fun e=>eK.1 (e ▸ cH)
  simp only [aj9,cN,al0];exact aq db (f9 _ cH)
def Uj (P:Program) (fn:Func) (R:Ending→World→Prop):hx→Act→World→Prop
  | .normal,a,w | .ret,a,w=>∃ cb,a.defers=marksOf cb∧cb.Nodup∧(∀ d∈cb,w.heap[d]? = some (.deferred (some []))) ∧
      ∃ v,(results fn a.tmps).run P (hy w cb) = .ok v (hy w cb)∧R (.returned v) (hy w cb)
  | .panic dC,a,w=>∃ cb,a.defers=marksOf cb∧cb.Nodup∧(∀ d∈cb,w.heap[d]? = some (.deferred (some [])))∧R (.panicked dC) (hy w cb)
  | .exit _,_,_=>False
theorem Uk {P:Program} {f:FuncId} {fn:Func} {c:Code} {args:Array Value} {w:World} {R:Ending→World→Prop}
    (aZ:P.funcs[f]? = some fn) (aq:fn.body=some c)
    (h:∀ b:Frame,b.roundOf=none→(P.funcs[b.fn]?).isSome=true→ka P b c (Uj P fn R) { tmps:=args++ao' (fn.ntmps-args.size) undef,defers:=[] } w) :
    tw P f args w R:=by
  intro cs
  let b:Frame:={ (default:Frame) with fn:=f,kind := .normal,roundOf:=none }
  have tz:Frame.enter P f args .normal =
      b.atR { tmps:=args++ao' (fn.ntmps-args.size) undef,defers:=[] } [.code c]:=by
    simp [Frame.enter,Frame.atR,aZ,aq,b]
  obtain ⟨e,dm,w',bf,fW⟩:=h b rfl (by simp [b,aZ]) [] cs;rw [← tz] at fW;cases e with
  | normal=>
    obtain ⟨cb,aA,av,jL,v,aC,e4⟩:=bf
    exact ⟨.returned v,_,_,⟨by simp,e4⟩,Steps.trans (Steps.trans fW (.one (stepR_end C)))
      (Gp cb { b.atR dm [] with mode := .returning } w' bc aA jL av),rfl,rfl,rfl,rfl,fn,aZ,aC⟩
  | ret=>
    obtain ⟨cb,aA,av,jL,v,aC,e4⟩:=bf;obtain ⟨k₁,al⟩:=fW
    exact ⟨.returned v,_,_,⟨by simp,e4⟩,Steps.trans (Steps.trans al (.one (stepR_ret C)))
      (Gp cb { b.atR dm (.code .ret::k₁) with mode := .returning } w' bc aA jL av),rfl,rfl,rfl,rfl,fn,aZ,aC⟩
  | panic dC=>
    obtain ⟨cb,aA,av,jL,e4⟩:=bf;obtain ⟨k₁,al⟩:=fW;exact ⟨.panicked dC,_,_,⟨by simp,e4⟩,Steps.trans al (Gp cb { b.atR dm k₁ with mode := .panicking dC } w' bc aA jL av),rfl,rfl,rfl,fn,aZ⟩
  | exit id=>exact bf.elim
def Ul (P:Program) (l:Nat) (R:Ending→World→Prop):hx→Act→World→Prop
 | .normal,_,w=>∃ v w',(Instr.endRound l none).run P w = .ok v w'∧R (.returned v) w'
 | .ret,_,w=>∃ v w',(Instr.endRound l (some .ret)).run P w = .ok v w'∧R (.returned v) w'
 | .exit id,_,w=>∃ v w',(Instr.endRound l (some (.exit id))).run P w = .ok v w'∧R (.returned v) w'
 | .panic dC,a,w=>a.defers=[]∧R (.panicked dC) w
theorem Um {P:Program} {l:Nat} {f:FuncId} {fn:Func} {tmps:Array Value} {hl body:Code} {w:World} {R:Ending→World→Prop}
  (aZ:P.funcs[f]? = some fn)
  (h:∀ b:Frame,b.roundOf=some l→b.fn=f→ka P b hl (hx.andThen (fun i' w₁=>∃ hU,(Instr.beginRound l).run P w₁ = .ok () hU∧ka P b body (Ul P l R) i' hU) (fun _ _ _=>False))
   { tmps:=tmps,defers:=[] } w):Round P l f tmps hl body w R:=by
 intro c cs
 let b:Frame:={ (default:Frame) with fn:=f,kind := .normal,roundOf:=some l }
 have sn:Frame.round l f tmps hl body .normal=b.atR { tmps:=tmps,defers:=[] } [.code hl,.beginRound,.code body]:=by
  simp [Frame.round,Frame.atR,b]
 obtain ⟨e,i',w₁,bf,fW⟩:=h b rfl rfl [.beginRound,.code body] (c::cs);rw [← sn] at fW;by_cases he:e = .normal
 ·subst he
  obtain ⟨hU,kv,tA⟩:=bf;have s1:=Steps.one (stepR_beginRound (P:=P) (b:=b) (a:=i') (k:=[.code body]) (cs:=c::cs) C kv);obtain ⟨Ax,CZ,ja,uZ,u0⟩:=tA [] (c::cs);cases Ax with
  | normal=>
   obtain ⟨v,l5,so,e4⟩:=uZ;exact ⟨.returned v,l5,e4,(Steps.trans fW s1).trans (Steps.trans u0 (.one (stepR_round_end C C so)))⟩
  | ret=>
   obtain ⟨v,l5,so,e4⟩:=uZ;obtain ⟨k₁,al⟩:=u0;exact ⟨.returned v,l5,e4,(Steps.trans fW s1).trans (Steps.trans al (.one (stepR_round_ret C C so)))⟩
  | exit id=>
   obtain ⟨v,l5,so,e4⟩:=uZ;obtain ⟨k₁,ax,al⟩:=u0.2 rfl;exact ⟨.returned v,l5,e4,(Steps.trans fW s1).trans (Steps.trans al (.one (stepR_round_exit C C ax so)))⟩
  | panic dC=>
   obtain ⟨aA,e4⟩:=uZ;obtain ⟨k₁,al⟩:=u0;refine ⟨.panicked dC,ja,e4,(Steps.trans fW s1).trans (Steps.trans al (.one ?_))⟩;exact step_lone_go (by simp [stepG,unwind,Frame.catches,Frame.atR,aA,b,aZ])
 ·cases e<;>first|exact absurd C he|exact bf.elim
inductive bM where
 | nil
 | clip
 | a7
 | own (b:Nat)
 deriving DecidableEq
inductive ag where
 | any
 | bool (b:Bool)
 | int (k:IntKind) (n:Int)
 | str (s:List UInt8)
 | sq
 | ptr (b o:Nat)
 | bl (cells:List ag) (off:Nat)
 | mQ (b:Nat) (cells:List ag)
 | aF (sz:Nat) (xs:List ag) (own:bM)
 | C0 (b n:Nat)
 | sr
 | map (b:Nat)
 | func (f:FuncId) (first cap:List ag)
 | ho (v:Value)
 | u1
 | iface (t:TypeId) (v:ag)
 | pM
 | agg (cells:List ag)
 | bW (vs:List ag)
abbrev bV:=Nat→Nat→Prop
def flat (vs:List Value):List Value:=vs.flatMap fun v=>v.cells.toList
def u2 (w:World) (p:bV) (b o:Nat) (vs:List Value):Prop:=∀ i v,vs[i]? = some v→p b (o+i)∧w.cell? ⟨b,o+i,none⟩=some v
def _root_.Go.World.kM (w:World) (r:Nat):Option (TypeId×Nat):=
 match w.heap[r]? with
 | some (.cells c elem (0,0))=>some (elem,c.size)
 | _=>none
mutual
inductive Rel (w:World) (p:bV):Value→ag→Prop
 | any (v:Value):Rel w p v .any
 | bool (b:Bool):Rel w p (.bool b) (.bool b)
 | int (k:IntKind) (n:Int):Rel w p (.int k n) (.int k n)
 | str (b:ByteArray) (s:List UInt8) (h:b.data.toList=s):Rel w p (.string b) (.str s)
 | sq:Rel w p (.pointer none) .sq
 | ptr (b o:Nat):Rel w p (.pointer (some ⟨b,o,none⟩)) (.ptr b o)
 | bl (b base o off:Nat) (vs:List Value) (cells:List ag) (ai:o=base+off) (aw:u2 w p b base vs) (aC:b4 w p vs cells) :
   Rel w p (.pointer (some ⟨b,o,none⟩)) (.bl cells off)
 | mQ (b:Nat) (vs:List Value) (cells:List ag) (av:vs≠[]) (al:∃ x,w.kM b=some x) (aw:u2 w p b 0 vs) (aC:b4 w p vs cells):Rel w p (.pointer (some ⟨b,0,none⟩)) (.mQ b cells)
 | iA (sz:Nat) (own:bM) (h:∀ b,own ≠ .own b):Rel w p (.slice none 0 0) (.aF sz [] own)
 | jo (a:Addr) (sz:Nat) (own:bM) (h:own = .a7∨own = .clip):Rel w p (.slice (some a) 0 0) (.aF sz [] own)
 | aF (g off n cap sz:Nat) (vs:List Value) (xs:List ag) (own:bM) (av:own ≠ .nil) (aE:n=xs.length) (aw:u2 w p g off (flat vs)) (aC:b4 w p vs xs)
   (al:∀ v∈vs,v.cells.size=sz) (hm:n≤9223372036854775807) (ax:n≤cap) (cm:own = .clip→cap=n)
   (ai:∀ b,own = .own b→b=g∧off=0∧∃ e,w.kM g=some (e,cap*sz)):Rel w p (.slice (some ⟨g,off,none⟩) n cap) (.aF sz xs own)
 | C0 (b n cap:Nat) (hm:n≤9223372036854775807) (ax:n≤cap):Rel w p (.slice (some ⟨b,0,none⟩) n cap) (.C0 b n)
 | sr:Rel w p (.map none) .sr
 | map (b:Nat):Rel w p (.map (some b)) (.map b)
 | func (f:FuncId) (as cs:Array Value) (first cap:List ag) (bp:b4 w p as.toList first) (aw:b4 w p cs.toList cap):Rel w p (.func (.func f) as cs) (.func f first cap)
 | ho (v:Value):Rel w p v (.ho v)
 | u1:Rel w p .nilFunc .u1
 | iface (t:TypeId) (v:Value) (x:ag) (h:Rel w p v x):Rel w p (.iface t v) (.iface t x)
 | pM:Rel w p .nilIface .pM
 | agg (cs:Array Value) (xs:List ag) (h:b4 w p cs.toList xs):Rel w p (.agg cs) (.agg xs)
 | bW (vs:Array Value) (xs:List ag) (h:b4 w p vs.toList xs):Rel w p (.tuple vs) (.bW xs)
inductive b4 (w:World) (p:bV):List Value→List ag→Prop
 | nil:b4 w p [] []
 | cons (v:Value) (x:ag) (vs:List Value) (xs:List ag) (h:Rel w p v x) (t:b4 w p vs xs):b4 w p (v::vs) (x::xs)
end
structure c2 (w:World) (p:bV) (w':World) (bg:bV):Prop where
 os:w'.os=w.os
 tape:w'.tape=w.tape
 output:w'.output=w.output
 size:w.heap.size≤w'.heap.size
 lG:∀ b o,p b o→bg b o
 same:∀ b o,p b o→w'.cell? ⟨b,o,none⟩=w.cell? ⟨b,o,none⟩
 shape:∀ b x,w.kM b=some x→w'.kM b=some x
theorem c2.refl (w:World) (p:bV):c2 w p w p:=⟨rfl,rfl,rfl,t7 _,fun _ _ h=>h,fun _ _ _=>rfl,fun _ _ h=>h⟩
theorem c2.trans {w w₁ hU:World} {p p₁ jM:bV} (h:c2 w p w₁ p₁) (k:c2 w₁ p₁ hU jM):c2 w p hU jM:=
 ⟨k.os.trans h.os,k.tape.trans h.tape,k.output.trans h.output,al7 h.size k.size,fun b o aB=>k.lG b o (h.lG b o aB),
  fun b o aB=>(k.same b o (h.lG b o aB)).trans (h.same b o aB),fun b x aa=>k.shape b x (h.shape b x aa)⟩
theorem u2.mono {w w':World} {p bg:bV} (hle:c2 w p w' bg) {b o:Nat} {vs:List Value} (h:u2 w p b o vs):u2 w' bg b o vs:=
 fun i v aD=>let ⟨U,ad⟩:=h i v aD;⟨hle.lG _ _ U,(hle.same _ _ U).trans ad⟩
mutual
theorem Rel.mono {w w':World} {p bg:bV} (hle:c2 w p w' bg) {v:Value} {x:ag} (h:Rel w p v x):Rel w' bg v x:=by
 cases h with
 | any v=>exact .any v
 | bool b=>exact .bool b
 | int k n=>exact .int k n
 | str b s h=>exact .str b s h
 | sq=>exact .sq
 | ptr b o=>exact .ptr b o
 | bl b base o off vs cells ai aw aC=>exact .bl b base o off vs cells ai (aw.mono hle) (aC.mono hle)
 | mQ b vs cells av al aw aC=>exact .mQ b vs cells av (al.imp fun x h=>hle.shape _ _ h) (aw.mono hle) (aC.mono hle)
 | iA sz own h=>exact .iA sz own h
 | jo a sz own h=>exact .jo a sz own h
 | aF g off n cap sz vs xs own av aE aw aC al hm ax cm ai=>
  exact .aF g off n cap sz vs xs own av aE (aw.mono hle) (aC.mono hle) al hm ax cm (fun b aq=>let ⟨U,ad,e,aj⟩:=ai b aq;⟨U,ad,e,hle.shape _ _ aj⟩)
 | C0 b n cap hm ax=>exact .C0 b n cap hm ax
 | sr=>exact .sr
 | map b=>exact .map b
 | func f as cs first cap bp aw=>exact .func f as cs first cap (bp.mono hle) (aw.mono hle)
 | ho v=>exact .ho v
 | u1=>exact .u1
 | iface t v x h=>exact .iface t v x (h.mono hle)
 | pM=>exact .pM
 | agg cs xs h=>exact .agg cs xs (h.mono hle)
 | bW vs xs h=>exact .bW vs xs (h.mono hle)
theorem b4.mono {w w':World} {p bg:bV} (hle:c2 w p w' bg) {vs:List Value} {xs:List ag} (h:b4 w p vs xs):b4 w' bg vs xs:=by
 cases h with
 | nil=>exact .nil
 | cons v x vs xs h t=>exact .cons v x vs xs (h.mono hle) (t.mono hle)
end
section Un
variable {w:World} {p:bV}
theorem b4.length {vs:List Value} {xs:List ag} (h:b4 w p vs xs):vs.length=xs.length:=by
 induction vs generalizing xs with
 | nil=>cases h;rfl
 | cons v vs a8=>cases h with|cons _ x _ xs h t=>simp [a8 t]
theorem b4.get {vs:List Value} {xs:List ag} (h:b4 w p vs xs) {i:Nat} {x:ag} (aa:xs[i]? = some x):∃ v,vs[i]? = some v∧Rel w p v x:=by
 induction vs generalizing xs i with
 | nil=>cases h;simp at aa
 | cons v vs a8=>
  cases h with
  | cons _ y _ ys h t=>
   cases i with
   | zero=>simp at aa;subst aa;exact ⟨v,rfl,h⟩
   | succ i=>simp at aa;obtain ⟨u,U,ad⟩:=a8 t aa;exact ⟨u,by simpa using U,ad⟩
theorem b4.append {vs us:List Value} {xs ys:List ag} (h:b4 w p vs xs) (k:b4 w p us ys):b4 w p (vs++us) (xs++ys):=by
 induction vs generalizing xs with
 | nil=>cases h;exact k
 | cons v vs a8=>cases h with|cons _ x _ xs h t=>exact .cons _ _ _ _ h (a8 t)
theorem b4.take {vs:List Value} {xs:List ag} (h:b4 w p vs xs) (n:Nat):b4 w p (vs.take n) (xs.take n):=by
  induction vs generalizing xs n with
  | nil=>cases h;simp;exact .nil
  | cons v vs a8=>
    cases h with
    | cons _ x _ xs h t=>cases n with
      | zero=>exact .nil
      | succ n=>exact .cons _ _ _ _ h (a8 t n)
theorem b4.drop {vs:List Value} {xs:List ag} (h:b4 w p vs xs) (n:Nat):b4 w p (vs.drop n) (xs.drop n):=by
  induction vs generalizing xs n with
  | nil=>cases h;simp;exact .nil
  | cons v vs a8=>
    cases h with
    | cons _ x _ xs h t=>cases n with
      | zero=>exact .cons _ _ _ _ h t
      | succ n=>exact a8 t n
theorem b4.set {vs:List Value} {xs:List ag} (h:b4 w p vs xs) (i:Nat) {v:Value} {x:ag} (aD:Rel w p v x):b4 w p (vs.set i v) (xs.set i x):=by
  induction vs generalizing xs i with
  | nil=>cases h;exact .nil
  | cons u vs a8=>
    cases h with
    | cons _ y _ ys h t=>cases i with
      | zero=>exact .cons _ _ _ _ aD t
      | succ i=>exact .cons _ _ _ _ h (a8 t i)
theorem b4.replicate {v:Value} {x:ag} (h:Rel w p v x) (n:Nat):b4 w p (ai0 n v) (ai0 n x):=by
 induction n with
 | zero=>exact .nil
 | succ n a8=>exact .cons _ _ _ _ h a8
end Un
abbrev Env:=List (Nat×ag)
def Env.get? : Env→Nat→Option ag
 | [],_=>none
 | (t,v)::e,n=>if aj4 t n then some v else Env.get? e n
inductive ds where
 | box (t:TypeId) (cells:List ag)
 | row (t:TypeId) (sz n:Nat)
 | map (es:List (ag×ag))
 | hz (es:List (ag×ag)) (it:Nat) (left:List (ag×ag)) (cur:Option (ag×ag))
 | tick (m:Nat)
 | loop (r:Loop) (env:Env)
abbrev ao:=Nat→Option ds
def l6 (w:World) (p:bV) (cr:List MapEntry) (es:List (ag×ag)):Prop:=
 b4 w p (cr.map (·.key)) (es.map (·.1))∧b4 w p (cr.map (·.val)) (es.map (·.2))
def rl (w:World) (p:bV) (b:Nat):ds→Prop
  | .box t cs=>∃ vs:Array Value,w.heap[b]? = some (.cells vs t (0,0))∧b4 w p vs.toList cs∧∀ o,¬ p b o
  | .row t sz n=>∃ cur:Array Value,w.heap[b]? = some (.cells cur t (0,0))∧n*sz≤cur.size∧(∃ cap,cur.size=cap*sz)∧∀ o,p b o↔o<n*sz
  | .map es=>∃ cr clock,w.heap[b]? = some (.map cr clock)∧l6 w p cr.toList es∧(∀ e∈cr.toList,e.born<clock)∧(cr.toList.map (·.born)).Nodup
  | .hz es it left cur=>∃ (cr:Array MapEntry) (clock:Nat) (seen:Array Nat),w.heap[b]? = some (.map cr clock)∧w.heap[it]? = some (.mapIter (some b) clock seen clock)∧l6 w p cr.toList es ∧
      (∀ e∈cr.toList,e.born<clock)∧(cr.toList.map (·.born)).Nodup∧l6 w p (cr.toList.filter fun e => !seen.contains e.born) left ∧
      ∀ k v,cur=some (k,v)→∃ Gq e,seen.back? = some Gq∧cr.find? (·.born==Gq)=some e∧Rel w p e.key k∧Rel w p e.val v
  | .tick m=>∃ since seen last,w.heap[b]? = some (.mapIter (some m) since seen last)
  | .loop r env=>w.heap[b]? = some (.loop r)∧∀ t v,env.get? t=some v→Rel w p (r.tmps.getD t undef) v
structure dn (w:World) (p:bV) (s:ao):Prop where
 obj:∀ b o,s b=some o→rl w p b o
 lt:∀ b o,p b o→b<w.heap.size
theorem rl.qt {w w':World} {p bg:bV} {b it:Nat} {es left:List (ag×ag)} {cur:Option (ag×ag)} (h:rl w p b (.hz es it left cur)) (hle:c2 w p w' bg) (aq:w'.heap[b]? = w.heap[b]?) (aQ:w'.heap[it]? = w.heap[it]?) :
  rl w' bg b (.hz es it left cur):=by
 obtain ⟨cr,clock,seen,U,ad,aj,bk,bF,fx,gL⟩:=h;exact ⟨cr,clock,seen,aq.trans U,aQ.trans ad,⟨aj.1.mono hle,aj.2.mono hle⟩,bk,bF,⟨fx.1.mono hle,fx.2.mono hle⟩,fun k v aw=>let ⟨st,e,fg,a2,a3,a4⟩:=gL k v aw;⟨st,e,fg,a2,a3.mono hle,a4.mono hle⟩⟩
theorem rl.AB {w:World} {p:bV} {b it d:Nat} {es left:List (ag×ag)} {cur:Option (ag×ag)} (h:rl w p b (.hz es it left cur)) {o:Obj} (aA:w.heap[d]? = some o) (ai:∀ m a s l,o ≠ .mapIter m a s l):it≠d:=by
 obtain ⟨cr,clock,seen,U,ad,aj⟩:=h;intro e;subst e;rw [aA] at ad;cases ad;exact ai _ _ _ _ C
structure Kept (s an:ao) (w:World) (p:bV) (w':World) (bg:bV):Prop where
 heap:∀ b,b<w.heap.size→s b=none→w'.heap[b]? = w.heap[b]?
 la:∀ b,b<w.heap.size→s b=none→an b=none
 lG:∀ b o,b<w.heap.size→s b=none→bg b o→p b o
theorem Kept.refl (s:ao) (w:World) (p:bV):Kept s s w p w p:=⟨fun _ _ _=>rfl,fun _ _ h=>h,fun _ _ _ _ h=>h⟩
theorem Kept.trans {s s₁ dD:ao} {w w₁ hU:World} {p p₁ jM:bV} (al:w.heap.size≤w₁.heap.size) (h:Kept s s₁ w p w₁ p₁) (k:Kept s₁ dD w₁ p₁ hU jM):Kept s dD w p hU jM:=
  ⟨fun b aq av=>(k.heap b (ap5 aq al) (h.la b aq av)).trans (h.heap b aq av),
   fun b aq av=>k.la b (ap5 aq al) (h.la b aq av),
   fun b o aq av aB=>h.lG b o aq av (k.lG b o (ap5 aq al) (h.la b aq av) aB)⟩
def yF:Value→Option ag
 | .bool b=>some (.bool b)
 | .int k n=>some (.int k n)
 | .string s=>some (.str s.data.toList)
 | .pointer none=>some .sq
 | .slice none 0 0=>some (.aF 0 [] .nil)
 | .map none=>some .sr
 | .nilFunc=>some .u1
 | .nilIface=>some .pM
 | .tuple vs=>if vs.isEmpty then some (.bW []) else none
 | _=>none
def aL (env:Env):Operand→Option ag
 | .tmp t=>env.get? t
 | .const v=>yF v
 | .func f=>some (.func f [] [])
 | .global _=>none
theorem Gr {w:World} {p:bV} {v:Value} {x:ag} (h:yF v=some x):Rel w p v x:=by
 unfold yF at h;split at h<;>first|(cases h;done)|(cases h;first|exact .bool _|exact .int _ _|exact .str _ _ C|exact .sq|exact .iA _ _ (fun _=>by simp)|exact .sr|exact .u1|exact .pM)|skip
 rename_i vs;split at h
 ·rename_i he
  cases h;have:vs = #[]:=by simpa using he
  subst this;exact .bW _ _ .nil
 ·cases h
abbrev fP:=Nat×List Deferred
structure dx (N:Nat) (B:fP) (ro:Option Nat) (env:Env) (s:ao) (a:Act) (w:World) (p:bV):Prop where
 size:a.tmps.size=N
 env:∀ t v,env.get? t=some v→Rel w p (a.tmps.getD t undef) v
 wf:dn w p s
 defs:∃ cb,a.defers=marksOf cb++B.2∧cb.Nodup∧∀ d∈cb,B.1≤d∧w.heap[d]? = some (.deferred (some []))∧s d=none
 round:∀ l,ro=some l→a.defers=[]∧(∃ r,w.heap[l]? = some (.loop r))∧s l=none
 base:B.1≤w.heap.size
theorem dx.aL {N:Nat} {B:fP} {ro:Option Nat} {env:Env} {s:ao} {a:Act} {w:World} {p:bV} (h:dx N B ro env s a w p) {o:Operand} {x:ag} (aa:aL env o=some x) :
  Rel w p (a.eval o) x:=by
 cases o with
 | tmp t=>exact h.env t x aa
 | const v=>exact Gr aa
 | func f=>simp [Go.Proofs.YtimbpjfhekcofaaGreat.aL] at aa;subst aa;exact .func f #[] #[] [] [] .nil .nil
 | global g=>simp [Go.Proofs.YtimbpjfhekcofaaGreat.aL] at aa
theorem dx.step {N:Nat} {B:fP} {ro:Option Nat} {env:Env} {s an:ao} {a:Act} {w w':World} {p bg:bV} (h:dx N B ro env s a w p)
  (hle:c2 w p w' bg) (ax:Kept s an w p w' bg) (ca:dn w' bg an):dx N B ro env an a w' bg:=by
 obtain ⟨cb,U,ad,aj⟩:=h.defs;refine ⟨h.size,fun t v aD=>(h.env t v aD).mono hle,ca,⟨cb,U,ad,fun d aA=>?_⟩,fun l aE=>?_,al7 h.base hle.size⟩
 ·obtain ⟨cO,n7,al⟩:=aj d aA
  have au:d<w.heap.size:=(t6.1 n7).1;exact ⟨cO,(ax.heap d au al).trans n7,ax.la d au al⟩
 ·obtain ⟨aA,⟨r,aC⟩,al⟩:=h.round l aE
  have au:l<w.heap.size:=(t6.1 aC).1;exact ⟨aA,⟨r,(ax.heap l au al).trans aC⟩,ax.la l au al⟩
theorem dx.put {N:Nat} {B:fP} {ro:Option Nat} {env:Env} {s:ao} {a:Act} {w:World} {p:bV} (h:dx N B ro env s a w p) {d:Nat} (aA:d<N) {v:Value} {x:ag}
  (aD:Rel w p v x):dx N B ro ((d,x)::env) s (a.put (some d) v) w p:=by
 refine ⟨by simp [Act.put,h.size],fun t y ar=>?_,h.wf,h.defs,h.round,h.base⟩;simp only [Env.get?] at ar;split at ar
 ·rename_i he
  have wG:d=t:=ai3 he;cases ar;subst wG;have cH:d<a.tmps.size:=h.size.symm ▸ aA;simpa [Act.put,ak1,aj9,cH] using aD
 ·rename_i he
  have wG:d≠t:=fun e=>he (by subst e;simp)
  have:=h.env t y ar;simpa [Act.put,ak1,aj9,wG] using this
inductive b8 where
 | normal
 | exit (id:Nat)
 | ret
 | panic (v:ag)
def yG (v:Value) (dC:List PanicEntry):Prop:=∃ rest,dC={ v,recovered:=false }::rest∧∀ e∈rest,e.goexit=false
theorem yG.one (v:Value):yG v [{ v,recovered:=false }]:=⟨[],rfl,fun _ h=>by cases h⟩
inductive yH (w:World) (p:bV):hx→b8→Prop
 | normal:yH w p .normal .normal
 | exit (id:Nat):yH w p (.exit id) (.exit id)
 | ret:yH w p .ret .ret
 | panic (v:Value) (x:ag) (dC:List PanicEntry) (aw:yG v dC) (h:Rel w p v x):yH w p (.panic dC) (.panic x)
def kx (N:Nat) (B:fP) (ro:Option Nat) (s:ao) (w:World) (p:bV) (Q:b8→Env→ao→Prop) (e:hx) (dm:Act) (w':World):Prop:=
 ∃ x e5 an bg,yH w' bg e x∧Q x e5 an∧dx N B ro e5 an dm w' bg∧c2 w p w' bg∧Kept s an w p w' bg
theorem kx.after {N:Nat} {B:fP} {ro:Option Nat} {s s₁:ao} {w w₁ w':World} {p p₁:bV} {Q:b8→Env→ao→Prop} {e:hx} {dm:Act}
  (hle:c2 w p w₁ p₁) (ax:Kept s s₁ w p w₁ p₁) (h:kx N B ro s₁ w₁ p₁ Q e dm w'):kx N B ro s w p Q e dm w' :=
 let ⟨x,e5,an,bg,U,ad,aj,bk,bF⟩:=h
 ⟨x,e5,an,bg,U,ad,aj,hle.trans bk,ax.trans hle.size bF⟩
def af (P:Program) (N:Nat) (c:Code) (Q:b8→Env→ao→Prop) (env:Env) (s:ao):Prop:=
 ∀ (b:Frame) (B:fP) (a:Act) (w:World) (p:bV),(P.funcs[b.fn]?).isSome=true→dx N B b.roundOf env s a w p→ka P b c (kx N B b.roundOf s w p Q) a w
section Uo
variable {P:Program} {N:Nat} {Q:b8→Env→ao→Prop} {env:Env} {s:ao}
theorem af.mono {c:Code} {pK:b8→Env→ao→Prop} (h:af P N c Q env s) (bf:∀ e env s,Q e env s→pK e env s):af P N c pK env s:=
 fun b B a w p eL aI=>mN (h b B a w p eL aI) fun _ _ _ ⟨x,e5,an,bg,U,ad,aj⟩=>⟨x,e5,an,bg,U,bf _ _ _ ad,aj⟩
theorem kx.here {B:fP} {ro:Option Nat} {a:Act} {w:World} {p:bV} {e:hx} {x:b8} (aa:yH w p e x) (bf:Q x env s) (h:dx N B ro env s a w p) :
  kx N B ro s w p Q e a w:=⟨x,env,s,p,aa,bf,h,.refl w p,.refl s w p⟩
theorem af.skip (h:Q .normal env s):af P N .skip Q env s:=fun _ _ _ _ _ _ aI=>T9 (.here .normal h aI)
theorem af.ret (h:Q .ret env s):af P N .ret Q env s:=fun _ _ _ _ _ _ aI=>Ua (.here .ret h aI)
theorem af.exit {id:Nat} (h:Q (.exit id) env s):af P N (.exit id) Q env s:=fun _ _ _ _ _ _ aI=>Ub (.here (.exit id) h aI)
def b8.andThen (next:Env→ao→Prop) (Q:b8→Env→ao→Prop):b8→Env→ao→Prop
 | .normal,e,s=>next e s
 | x,e,s=>Q x e s
theorem af.seq {x y:Code} (h:af P N x (b8.andThen (af P N y Q) Q) env s):af P N (.seq x y) Q env s:=by
 intro b B a w p eL aI;refine Uc (mN (h b B a w p eL aI) ?_);rintro e i' w₁ ⟨C1,pN,s₁,p₁,aa,bf,lH,hle,ax⟩;cases aa with
 | normal=>exact mN (bf b B i' w₁ p₁ eL lH) fun _ _ _ h=>h.after hle ax
 | exit id=>exact ⟨_,pN,s₁,p₁,.exit id,bf,lH,hle,ax⟩
 | ret=>exact ⟨_,pN,s₁,p₁,.ret,bf,lH,hle,ax⟩
 | panic v x dC aw aD=>exact ⟨_,pN,s₁,p₁,.panic v x dC aw aD,bf,lH,hle,ax⟩
theorem C2 {w:World} {p:bV} {v:Value} {t:Bool} (h:Rel w p v (.bool t)):v = .bool t:=by cases h;rfl
theorem af.cond {c:Operand} {x y:Code} {t:Bool} (aw:aL env c=some (.bool t)) (aN:t=true→af P N x Q env s) (aZ:t=false→af P N y Q env s) :
  af P N (.cond c x y) Q env s:=by
 intro b B a w p eL aI;refine Ud (C2 (aI.aL aw)) ?_;cases t
 ·exact aZ C b B a w p eL aI
 ·exact aN C b B a w p eL aI
theorem af.hA {c:Operand} {x y:Code} (aw:aL env c=some (.bool true)) (h:af P N x Q env s):af P N (.cond c x y) Q env s:=af.cond aw (fun _=>h) bc
theorem af.hp {c:Operand} {x y:Code} (aw:aL env c=some (.bool false)) (h:af P N y Q env s):af P N (.cond c x y) Q env s:=af.cond aw bc (fun _=>h)
def b8.inBlock (id:Nat) (Q:b8→Env→ao→Prop):b8→Env→ao→Prop
 | .exit k9,a,w=>if aj4 k9 id then Q .normal a w else Q (.exit k9) a w
 | e,a,w=>Q e a w
theorem af.block {id:Nat} {c:Code} (h:af P N c (b8.inBlock id Q) env s):af P N (.block id c) Q env s:=by
 intro b B a w p eL aI;refine Ue (mN (h b B a w p eL aI) ?_);rintro e i' w₁ ⟨C1,pN,s₁,p₁,aa,bf,lH,hle,ax⟩;cases aa with
 | normal=>exact ⟨_,pN,s₁,p₁,.normal,bf,lH,hle,ax⟩
 | exit k9=>
  by_cases tv:k9=id
  ·simp only [b8.inBlock,tv,ay',ak2] at bf
   simp only [hx.inBlock,tv,ak2];exact ⟨_,pN,s₁,p₁,.normal,bf,lH,hle,ax⟩
  ·have aq:aj4 k9 id=false:=by
    cases Up:aj4 k9 id with
    | false=>rfl
    | true=>exact absurd (ai3 Up) tv
   simp only [b8.inBlock,aq,al0,aj2] at bf;simp only [hx.inBlock,tv,al0];exact ⟨_,pN,s₁,p₁,.exit k9,bf,lH,hle,ax⟩
 | ret=>exact ⟨_,pN,s₁,p₁,.ret,bf,lH,hle,ax⟩
 | panic v x dC aw aD=>exact ⟨_,pN,s₁,p₁,.panic v x dC aw aD,bf,lH,hle,ax⟩
def aR (x y:ag):Prop:=∀ w p v,Rel w p v x→Rel w p v y
theorem aR.refl (x:ag):aR x x:=fun _ _ _ h=>h
def Env.Sub:Env→Env→Prop
 | [],_=>True
 | (t,v)::e,env=>(∃ ga,env.get? t=some ga∧aR ga v)∧Env.Sub e env
theorem Env.Sub.get {e env:Env} (h:Env.Sub e env) {t:Nat} {v:ag} (aD:e.get? t=some v):∃ ga,env.get? t=some ga∧aR ga v:=by
 induction e with
 | nil=>simp [Env.get?] at aD
 | cons x e a8=>
  obtain ⟨bR,ga⟩:=x;simp only [Env.get?] at aD;split at aD
  ·rename_i he
   have wG:bR=t:=ai3 he;cases aD;subst wG;exact h.1
  ·exact a8 h.2 aD
theorem dx.sub {B:fP} {ro:Option Nat} {e:Env} {a:Act} {w:World} {p:bV} (al:Env.Sub e env) (h:dx N B ro env s a w p):dx N B ro e s a w p:=
 ⟨h.size,fun t v aD=>let ⟨ga,U,ad⟩:=al.get aD;ad _ _ _ (h.env t ga U),h.wf,h.defs,h.round,h.base⟩
theorem af.sub {c:Code} (e:Env) (al:Env.Sub e env) (h:af P N c Q e s):af P N c Q env s:=
 fun b B a w p eL aI=>h b B a w p eL (aI.sub al)
def ao.Sub (an s:ao):Prop:=∀ b,an b=s b∨an b=none
theorem dn.sub {an:ao} {w:World} {p:bV} (al:ao.Sub an s) (h:dn w p s):dn w p an :=
 ⟨fun b o aq=>h.obj b o (by rcases al b with e|e<;>simp_all),h.lt⟩
theorem ao.Sub.none {an:ao} (al:ao.Sub an s) {b:Nat} (h:s b=none):an b=none:=by rcases al b with e|e<;>simp_all
theorem Kept.yI {an eM:ao} (al:ao.Sub an s) {w w':World} {p bg:bV} (h:Kept an eM w p w' bg):Kept s eM w p w' bg :=
 ⟨fun b aq av=>h.heap b aq (al.none av),fun b aq av=>h.la b aq (al.none av),fun b o aq av=>h.lG b o aq (al.none av)⟩
theorem dx.Gs {B:fP} {ro:Option Nat} {an:ao} {a:Act} {w:World} {p:bV} (al:ao.Sub an s) (h:dx N B ro env s a w p):dx N B ro env an a w p:=by
 obtain ⟨cb,U,ad,aj⟩:=h.defs;exact ⟨h.size,h.env,h.wf.sub al,⟨cb,U,ad,fun d aA=>let ⟨a,b,c⟩:=aj d aA;⟨a,b,al.none c⟩⟩,fun l aE=>let ⟨a,b,c⟩:=h.round l aE;⟨a,b,al.none c⟩,h.base⟩
theorem af.drop {c:Code} (an:ao) (al:ao.Sub an s) (h:af P N c Q env an):af P N c Q env s:=
 fun b B a w p eL aI=>mN (h b B a w p eL (aI.Gs al)) fun _ _ _ ⟨x,e5,eM,bg,U,ad,aj,bk,bF⟩=>⟨x,e5,eM,bg,U,ad,aj,bk,bF.yI al⟩
theorem af.loop {σ:Type} {c:Code} (E:σ→Env) (S:σ→ao) (aid:σ→Prop) (μ:σ→Nat) (oO:σ) (aG:aid oO) (gB:Env.Sub (E oO) env) (cK:ao.Sub (S oO) s)
  (round:∀ x,aid x→af P N c (b8.andThen (fun e5 an=>∃ y,aid y∧Env.Sub (E y) e5∧ao.Sub (S y) an∧μ y<μ x) Q) (E x) (S x)):af P N (.loop c) Q env s:=by
 refine af.sub _ gB (af.drop _ cK ?_);intro b B a w p eL aI;have key:∀ n x a w p,μ x=n→aid x→dx N B b.roundOf (E x) (S x) a w p→∀ k cs,∃ e dm w',kx N B b.roundOf (S x) w p Q e dm w' ∧
   rk P (lone (b.atR a (.code c :: .inLoop c::k)) cs w) b k cs e dm w':=by
  intro n
  induction n using aG0 with
  | _ n a8=>
   intro x a w p av aa aI k cs;obtain ⟨e,i',w₁,⟨C1,pN,s₁,p₁,Gt,bf,lH,hle,ax⟩,fW⟩:=round x aa b B a w p eL aI (.inLoop c::k) cs;by_cases he:e = .normal
   ·subst he
    cases Gt;obtain ⟨y,ar,gC,Lq,au⟩:=bf;obtain ⟨Ax,CZ,hU,uZ,u0⟩:=a8 (μ y) (av ▸ au) y i' w₁ p₁ rfl ar ((lH.sub gC).Gs Lq) k cs;refine ⟨Ax,CZ,hU,kx.after hle ax ?_,.of_steps (Steps.trans fW (.one stepR_inLoop)) u0⟩;obtain ⟨l7,e5,eM,bg,U,ad,aj,bk,bF⟩:=uZ;exact ⟨l7,e5,eM,bg,U,ad,aj,bk,bF.yI Lq⟩
   ·have Ay:kx N B b.roundOf (S x) w p Q e i' w₁:=by
     refine ⟨C1,pN,s₁,p₁,Gt,?_,lH,hle,ax⟩;cases Gt<;>first|exact absurd C he|exact bf
    exact ⟨e,i',w₁,Ay,rk.Lo (c:=c) (.inLoop c) C he fW⟩
 intro k cs;obtain ⟨e,dm,w',bf,fW⟩:=key _ oO a w p rfl aG aI k cs;exact ⟨e,dm,w',bf,.of_steps (.one stepR_loop) fW⟩
end Uo
def aX (P:Program) (N:Nat) (o:Oper) (env:Env) (s:ao) (K X:ag→ao→Prop):Prop:=
 gS o=true∧∀ ro B a w p,dx N B ro env s a w p→qs P ((execOp a.eval o).run P w) fun e w'=>∃ an bg,c2 w p w' bg∧Kept s an w p w' bg∧dn w' bg an ∧
  match e with
  | .returned v=>∃ x,K x an∧Rel w' bg v x
  | .panicked dC=>∃ v x,yG v dC∧X x an∧Rel w' bg v x
  | .outgrown=>False
theorem aX.mono {P:Program} {N:Nat} {o:Oper} {env:Env} {s:ao} {K X aM n8:ag→ao→Prop} (h:aX P N o env s K X)
  (ax:∀ x s,K x s→aM x s) (aa:∀ x s,X x s→n8 x s):aX P N o env s aM n8 :=
 ⟨h.1,fun ro B a w p aI=>(h.2 ro B a w p aI).mono fun e w' ⟨an,bg,U,ad,aj,bk⟩=>⟨an,bg,U,ad,aj,by
  cases e with
  | returned v=>obtain ⟨x,aa,aC⟩:=bk;exact ⟨x,ax _ _ aa,aC⟩
  | panicked dC=>obtain ⟨v,x,aw,jq,aC⟩:=bk;exact ⟨v,x,aw,aa _ _ jq,aC⟩
  | outgrown=>exact bk⟩⟩
def guardOf (ops:Array Oper) (env:Env) (o:Oper):Option Bool:=
  match o.guard with
  | none=>some true
  | some (j,want)=>
    match (ops[j]?).bind (·.dst) with
    | none=>some false
    | some d=>match env.get? d with
      | some (.bool b)=>some (match want with|true=>b|false => !b)
      | some (.bW [])=>some false
      | _=>none
theorem Uq {w:World} {p:bV} {v:Value} (h:Rel w p v (.bW [])):v = .tuple #[]:=by
 cases h with
 | bW vs _ h=>have:=h.length;simp at this;rw [this]
theorem wH {N:Nat} {B:fP} {ro:Option Nat} {env:Env} {s:ao} {a:Act} {w:World} {p:bV} (aI:dx N B ro env s a w p) {ops:Array Oper} {o:Oper} {g:Bool}
  (h:guardOf ops env o=some g):Region.wanted o (yielded ops a.tmps)=g:=by
 unfold guardOf at h;unfold Region.wanted;split at h
 ·rename_i ay;simp only [ay];cases h;rfl
 ·rename_i j want ay
  simp only [ay];split at h
  ·rename_i aA
   cases h;simp [yielded,aA]
  ·rename_i d aA
   split at h
   ·rename_i b aq
    have aC:=aI.env d _ aq;have aD:=C2 aC;cases h;have ar:yielded ops a.tmps j=some b:=by
     unfold yielded;have:a.tmps[d]? = some (.bool b):=by
      rw [ak1] at aD;cases aa:a.tmps[d]? with
      | none=>rw [aa] at aD;simp [undef] at aD
      | some v=>rw [aa] at aD;simpa using aD
     simp [aA,this]
    rw [ar];cases want<;>cases b<;>rfl
   ·rename_i aq
    cases h;have aC:=aI.env d _ aq;have aD:a.tmps.getD d undef = .tuple #[]:=by
     generalize Lr:a.tmps.getD d undef=v at aC;exact Uq aC
    have ar:yielded ops a.tmps j=none:=by
     unfold yielded;rw [ak1] at aD;simp only [aA,ar6];cases aa:a.tmps[d]? with
     | none=>rfl
     | some v=>rw [aa] at aD;simp at aD;subst aD;rfl
    rw [ar];rfl
   ·cases h
def jb (P:Program) (N:Nat) (ops:Array Oper) (l:List Nat) (Q:b8→Env→ao→Prop) (env:Env) (s:ao):Prop:=
 ∀ ro B a w p,dx N B ro env s a w p→ku P ops (kx N B ro s w p Q) l a w
section rw
variable {P:Program} {N:Nat} {ops:Array Oper} {Q:b8→Env→ao→Prop} {env:Env} {s:ao}
theorem af.region {id:Nat} (h:jb P N ops (ak6 ops.size) Q env s):af P N (.region id ops false) Q env s:=
 fun b B a w p _ aI=>Uh (h b.roundOf B a w p aI)
theorem jb.nil (h:Q .normal env s):jb P N ops [] Q env s:=fun _ _ _ _ _ aI => .here .normal h aI
theorem AD {Q pK:hx→Act→World→Prop} (bf:∀ e a w,Q e a w→pK e a w):∀ (l:List Nat) (a:Act) (w:World),ku P ops Q l a w→ku P ops pK l a w:=by
 intro l
 induction l with
 | nil=>exact fun a w h=>bf _ _ _ h
 | cons i rest a8=>
  intro a w h;simp only [ku] at h ⊢;split at h
  ·rename_i ai;exact a8 _ _ h
  ·rename_i o ai
   split at h
   ·rename_i hw
    rw [f7 hw];exact ⟨h.1,h.2.mono fun e w' he=>by cases e<;>first|exact a8 _ _ he|exact bf _ _ _ he|exact he⟩
   ·rename_i hw
    rw [f4 hw];exact a8 _ _ h
theorem jb.after {l:List Nat} {s₁:ao} {ro:Option Nat} {B:fP} {a:Act} {w w₁:World} {p p₁:bV} {Gu:Env}
  (hle:c2 w p w₁ p₁) (ax:Kept s s₁ w p w₁ p₁) (h:jb P N ops l Q Gu s₁) (aI:dx N B ro Gu s₁ a w₁ p₁):ku P ops (kx N B ro s w p Q) l a w₁:=
 AD (fun _ _ _ q=>q.after hle ax) l a w₁ (h ro B a w₁ p₁ aI)
theorem jb.op {i:Nat} {l:List Nat} {o:Oper} {d:Nat} {K X:ag→ao→Prop} (ai:ops[i]? = some o) (ay:guardOf ops env o=some true) (aA:o.dst=some d)
  (a1:af' d N=true) (h:aX P N o env s K X) (ax:∀ x an,K x an→jb P N ops l Q ((d,x)::env) an) (aa:∀ x an,X x an→Q (.panic x) env an) :
  jb P N ops (i::l) Q env s:=by
 intro ro B a w p aI;have n9:d<N:=by simpa [as4] using a1
 simp only [ku,ai,wH aI ay,ak2];refine ⟨h.1,(h.2 ro B a w p aI).mono ?_⟩;rintro e w' ⟨an,bg,hle,l8,ca,he⟩;cases e with
 | returned v=>
  obtain ⟨x,bC,aC⟩:=he;rw [aA];exact jb.after hle l8 (ax x an bC) ((aI.step hle l8 ca).put n9 aC)
 | panicked dC=>
  obtain ⟨v,x,jr,jq,aC⟩:=he;exact ⟨.panic x,env,an,bg,.panic v x dC jr aC,aa x an jq,aI.step hle l8 ca,hle,l8⟩
 | outgrown=>exact he
theorem jb.yJ {i:Nat} {l:List Nat} {o:Oper} {K X:ag→ao→Prop} (ai:ops[i]? = some o) (ay:guardOf ops env o=some true) (aA:o.dst=none)
  (h:aX P N o env s K X) (ax:∀ x an,K x an→jb P N ops l Q env an) (aa:∀ x an,X x an→Q (.panic x) env an) :
  jb P N ops (i::l) Q env s:=by
 intro ro B a w p aI;simp only [ku,ai,wH aI ay,ak2];refine ⟨h.1,(h.2 ro B a w p aI).mono ?_⟩;rintro e w' ⟨an,bg,hle,l8,ca,he⟩;cases e with
 | returned v=>
  obtain ⟨x,bC,aC⟩:=he;rw [aA];exact jb.after hle l8 (ax x an bC) (aI.step hle l8 ca)
 | panicked dC=>
  obtain ⟨v,x,jr,jq,aC⟩:=he;exact ⟨.panic x,env,an,bg,.panic v x dC jr aC,aa x an jq,aI.step hle l8 ca,hle,l8⟩
 | outgrown=>exact he
theorem Gv {w:World} {p:bV}:Rel w p undef (.bW []) := .bW #[] [] .nil
theorem jb.skip {i:Nat} {l:List Nat} {o:Oper} {d:Nat} (ai:ops[i]? = some o) (ay:guardOf ops env o=some false) (aA:o.dst=some d) (a1:af' d N=true)
  (h:jb P N ops l Q ((d,.bW [])::env) s):jb P N ops (i::l) Q env s:=by
 intro ro B a w p aI;have n9:d<N:=by simpa [as4] using a1
 simp only [ku,ai,wH aI ay,al0,aj2,aA];exact h ro B _ w p (aI.put n9 Gv)
end rw
theorem dn.grow {w w':World} {p bg:bV} {s:ao} (hle:c2 w p w' bg) (c4:∀ b,b<w.heap.size→w'.heap[b]? = w.heap[b]?)
  (aB:∀ b o,b<w.heap.size→bg b o→p b o) (au:∀ b o,bg b o→b<w'.heap.size) (h:dn w p s):dn w' bg s:=by
 refine ⟨fun b o aq=>?_,au⟩;have ai:=h.obj b o aq;cases o with
 | box t cs=>
  obtain ⟨vs,U,ad,aj⟩:=ai;have tB:b<w.heap.size:=(t6.1 U).1;exact ⟨vs,(c4 b tB).trans U,ad.mono hle,fun o fo=>aj o (aB b o tB fo)⟩
 | row t sz n=>
  obtain ⟨cur,U,ad,aj,bk⟩:=ai;have tB:b<w.heap.size:=(t6.1 U).1;exact ⟨cur,(c4 b tB).trans U,ad,aj,fun o=>⟨fun fo=>(bk o).1 (aB b o tB fo),fun av=>hle.lG _ _ ((bk o).2 av)⟩⟩
 | map es=>
  obtain ⟨cr,clock,U,ad,aj,bk⟩:=ai;have tB:b<w.heap.size:=(t6.1 U).1;exact ⟨cr,clock,(c4 b tB).trans U,⟨ad.1.mono hle,ad.2.mono hle⟩,aj,bk⟩
 | hz es it left cur=>
  obtain ⟨cr,clock,seen,U,ad,-⟩:=id ai;exact ai.qt hle (c4 b (t6.1 U).1) (c4 it (t6.1 ad).1)
 | tick m=>obtain ⟨fg,a2,a3,U⟩:=ai;exact ⟨fg,a2,a3,(c4 b (t6.1 U).1).trans U⟩
 | loop r env=>exact ⟨(c4 b (t6.1 ai.1).1).trans ai.1,fun t v h=>(ai.2 t v h).mono hle⟩
theorem l9 (w:World) (o:Obj) (b:Nat) (h:b<w.heap.size):(w.alloc o).heap[b]? = w.heap[b]?:=by
 show (w.heap.push o)[b]? = _;rw [aD7,f4 ak]
theorem ss (w:World) (o:Obj):(w.alloc o).heap[w.heap.size]? = some o:=by
 show (w.heap.push o)[w.heap.size]? = _;rw [aD7,f7 C]
theorem wI {w w':World} {b:Nat} (h:w'.heap[b]? = w.heap[b]?):w'.kM b=w.kM b:=by simp [World.kM,h]
theorem wJ {w w':World} {b o:Nat} (h:w'.heap[b]? = w.heap[b]?):w'.cell? ⟨b,o,none⟩=w.cell? ⟨b,o,none⟩:=by simp [World.cell?,h]
theorem Ur {w:World} {b:Nat} {x:TypeId×Nat} (h:w.kM b=some x):b<w.heap.size:=by
 unfold World.kM at h;split at h
 ·rename_i c4;exact (t6.1 c4).1
 ·cases h
theorem c2.of_heap {w w':World} {p bg:bV} (ai:w'.os=w.os) (aN:w'.tape=w.tape) (hu:w'.output=w.output) (al:w.heap.size≤w'.heap.size)
  (aB:∀ b o,p b o→bg b o) (au:∀ b o,p b o→b<w.heap.size) (c4:∀ b,b<w.heap.size→w'.heap[b]? = w.heap[b]?):c2 w p w' bg :=
 ⟨ai,aN,hu,al,aB,fun b o aq=>wJ (c4 b (au b o aq)),fun b x aa=>by rw [wI (c4 b (Ur aa))];exact aa⟩
def bV.dT (p:bV) (b:Nat) (c:Prop):bV:=fun aW o=>p aW o∨(aW=b∧c)
section alloc
variable {w:World} {p:bV} {s:ao}
theorem u3 (au:∀ b o,p b o→b<w.heap.size) (o:Obj) (c:Prop):c2 w p (w.alloc o) (p.dT w.heap.size c):=
 c2.of_heap C C C bc (fun _ _ h => .inl h) au (fun b aq=>l9 w o b aq)
theorem AE (h:dn w p s) (o:Obj) (c:Prop):dn (w.alloc o) (p.dT w.heap.size c) s:=
  h.grow (u3 h.lt o c) (fun b aq=>l9 w o b aq) (fun b o aq aB=>by rcases aB with aB|⟨rfl,_⟩;exact aB;omega)
    (fun b o aB=>by rcases aB with aB|⟨rfl,_⟩;have:=h.lt b o aB;simp;omega;simp)
theorem C3 (o:Obj) (c:Prop):Kept s s w p (w.alloc o) (p.dT w.heap.size c):=
 ⟨fun b aq _=>l9 w o b aq,fun _ _ h=>h,fun b o aq _ aB=>by rcases aB with aB|⟨rfl,_⟩;exact aB;omega⟩
theorem Gw (vs:List Value) (t:TypeId):u2 (w.alloc (.cells vs.toArray t)) (p.dT w.heap.size True) w.heap.size 0 vs:=by
 intro i v aD;refine ⟨.inr ⟨rfl,trivial⟩,?_⟩;rw [aj8];simp only [World.cell?,ss,aD8,aj2,al0];simpa using aD
theorem lb:c2 w p w.drew p:=⟨rfl,rfl,rfl,t7 _,fun _ _ h=>h,fun _ _ _=>rfl,fun _ _ h=>h⟩
theorem yK (h:dn w p s):dn w.drew p s:=h.grow lb (fun _ _=>rfl) (fun _ _ _ h=>h) h.lt
theorem wK:Kept s s w p w.drew p:=⟨fun _ _ _=>rfl,fun _ _ h=>h,fun _ _ _ _ h=>h⟩
end alloc
inductive tC where
 | bool
 | int (k:IntKind)
 | str
 | ptr (e:TypeId)
 | aF (e:TypeId)
 | map (k e:TypeId)
 | struct (hb:List (Nat×TypeId))
 | iface (bare:Bool)
 | func
 | arr (n:Nat) (e:TypeId)
 | other
structure bQ where
 bN:tC
 size:Nat
 bytes:Nat
 zero:Value
def ec:TypeDesc→tC
 | .bool => .bool
 | .int k => .int k
 | .string => .str
 | .pointer e => .ptr e
 | .slice e => .aF e
 | .map k e => .map k e
 | .struct hb => .struct (hb.toList.map fun f=>(f.offset,f.type))
 | .interface ms => .iface ms.isEmpty
 | .func .. => .func
 | .array n e => .arr n e
 | _ => .other
abbrev cz:=List (Nat×bQ)
def cz.get? : cz→Nat→Option bQ
 | [],_=>none
 | (t,v)::e,n=>if aj4 t n then some v else cz.get? e n
def Gx (P:Program) (t:TypeId):Option bQ:=
  match P.info? t,P.underlying t with
  | some i,some d=>match i.zero with
    | some z=>some { bN:=ec d,size:=i.size,bytes:=i.bytes,zero:=z }
    | none=>none
  | _,_=>none
def bX (P:Program) (Γ:cz):Prop:=∀ t i,Γ.get? t=some i→Gx P t=some i
theorem Us (P:Program) (Γ:cz) (h:Γ.map (fun x=>Gx P x.1)=Γ.map (fun x=>some x.2)):bX P Γ:=by
 induction Γ with
 | nil=>intro t i h;simp [cz.get?] at h
 | cons x Γ a8=>
  obtain ⟨bR,C4⟩:=x;simp only [ai2,List.cons.injEq] at h;intro t i ay;simp only [cz.get?] at ay;split at ay
  ·rename_i he
   have:=ai3 he;subst this;cases ay;exact h.1
  ·exact a8 h.2 t i ay
theorem bX.parts {P:Program} {Γ:cz} (h:bX P Γ) {t:TypeId} {i:bQ} (aQ:Γ.get? t=some i) :
  ∃ info d,P.info? t=some info∧P.underlying t=some d∧ec d=i.bN∧info.size=i.size∧info.bytes=i.bytes∧info.zero=some i.zero:=by
 have:=h t i aQ;unfold Gx at this;split at this
 ·rename_i info d U ad
  split at this
  ·rename_i z bO
   cases this;exact ⟨info,d,U,ad,rfl,rfl,rfl,bO⟩
  ·cases this
 ·cases this
def cellsOf:ag→Option (List ag)
 | .agg cs=>some cs
 | .any=>none
 | .ho (.func f a c)=>some [.ho (.func f a c)]
 | .ho (.slice a n c)=>some [.ho (.slice a n c)]
 | .ho _=>none
 | .bW _=>none
 | v=>some [v]
theorem su {w:World} {p:bV} {v:Value} {x:ag} {cs:List ag} (aC:Rel w p v x) (h:cellsOf x=some cs):b4 w p v.cells.toList cs:=by
 cases aC with
 | ho v=>
  cases v<;>simp [cellsOf] at h
  all_goals
   subst h;exact .cons _ _ _ _ (.ho _) .nil
 | any=>cases h
 | bW=>cases h
 | agg cs xs eA=>cases h;exact eA
 | _=>simp only [cellsOf] at h;cases h;simp only [Value.cells];refine .cons _ _ _ _ ?_ .nil;constructor<;>assumption
def u4:Nat→List ag→Option (List ag)
  | 0,_=>some []
  | n+1,v::r=>match u4 n r with
    | some s=>some (v::s)
    | none=>none
  | _+1,[]=>none
def rm:Nat→List ag→Option (List ag)
 | 0,r=>some r
 | n+1,_::r=>rm n r
 | _+1,[]=>none
def nth {α:Type}:List α→Nat→Option α
 | [],_=>none
 | x::_,0=>some x
 | _::r,n+1=>nth r n
theorem yL {α:Type} (l:List α) (n:Nat):nth l n=l[n]?:=by
  induction l generalizing n with
  | nil=>rfl
  | cons x l a8=>cases n with
    | zero=>rfl
    | succ n=>simp only [nth,at3];exact a8 n
theorem C5 {n:Nat} {l r:List ag} (h:u4 n l=some r):r=l.take n∧n≤l.length:=by
 induction n generalizing l r with
 | zero=>cases h;simp
 | succ n a8=>
  cases l with
  | nil=>simp [u4] at h
  | cons v l=>
   simp only [u4] at h;split at h
   ·rename_i s al;cases h;obtain ⟨U,ad⟩:=a8 al;subst U;simp;omega
   ·cases h
theorem Ut {n:Nat} {l r:List ag} (h:rm n l=some r):r=l.drop n:=by
  induction n generalizing l with
  | zero=>cases h;rfl
  | succ n a8=>cases l with
    | nil=>simp [rm] at h
    | cons v l=>simpa [rm] using a8 (by simpa [rm] using h)
def hB (i:bQ) (cells:List ag) (off:Nat):Option ag:=
  match rm off cells with
  | none=>none
  | some r=>match i.bN with
    | .struct _=>match u4 i.size r with
      | some cs=>some (.agg cs)
      | none=>none
    | .arr _ _=>match u4 i.size r with
      | some cs=>some (.agg cs)
      | none=>none
    | .other=>none
    | _=>match r with
      | v::_=>some v
      | []=>none
def ij:Value→Option ag
  | .agg cs=>match cs.toList.mapM yF with
    | some xs=>some (.agg xs)
    | none=>none
  | v=>yF v
theorem Uu {w:World} {p:bV} {vs:List Value} {xs:List ag} (h:vs.mapM yF=some xs):b4 w p vs xs:=by
 induction vs generalizing xs with
 | nil=>simp at h;subst h;exact .nil
 | cons v vs a8=>
  simp only [aC4,Option.bind_eq_bind,Option.pure_def,Option.bind_eq_some_iff,ap7.injEq] at h;obtain ⟨x,aa,ys,gl,rfl⟩:=h;exact .cons _ _ _ _ (Gr aa) (a8 gl)
theorem rn {w:World} {p:bV} {v:Value} {x:ag} (h:ij v=some x):Rel w p v x:=by
 unfold ij at h;split at h
 ·split at h
  ·rename_i cs xs aa;cases h;exact .agg _ _ (Uu aa)
  ·cases h
 ·exact Gr h
def wL (d:TypeDesc):Bool:=match d with | .struct _ | .array _ _=>true|_=>false
theorem yM {P:Program} {t:TypeId} {d:TypeDesc} (h:P.underlying t=some d) (w:World):(isAgg t).run P w = .ok (wL d) w:=by
 unfold isAgg;rw [H1,run_underlying h,i0];cases d<;>rfl
theorem AF {d:TypeDesc} {hb:List (Nat×TypeId)} (h:ec d = .struct hb):∃ f:Array Field,d = .struct f∧hb=f.toList.map fun x=>(x.offset,x.type):=by
 cases d<;>simp [ec] at h;rename_i f;exact ⟨f,rfl,h.symm⟩
theorem wM {d:TypeDesc} {n:Nat} {e:TypeId} (h:ec d = .arr n e):d = .array n e:=by
 cases d<;>simp [ec] at h
 rw [h.1,h.2]
theorem Ls {d:TypeDesc} (U:∀ hb,ec d ≠ .struct hb) (aj:∀ n e,ec d ≠ .arr n e) (ad:ec d ≠ .other):wL d=false:=by
 cases d<;>simp_all [ec,wL]
def Gy (op:BinOp) (k:IntKind) (a b:Int):Option ag:=
 match op with
 | .add=>some (.int k (k.wrap (a+b)))
 | .sub=>some (.int k (k.wrap (a-b)))
 | .mul=>some (.int k (k.wrap (a*b)))
 | .eql=>some (.bool (a==b))
 | .neq=>some (.bool (a != b))
 | .lss=>some (.bool (decide (a<b)))
 | .leq=>some (.bool (decide (a≤b)))
 | .gtr=>some (.bool (decide (a>b)))
 | .geq=>some (.bool (decide (a≥b)))
 | _=>none
def Gz (op:BinOp) (a b:List UInt8):Option ag:=
 match op with
 | .eql=>some (.bool (a==b))
 | .neq=>some (.bool (!(a==b)))
 | .lss=>some (.bool (Op.bytesLess a b))
 | .gtr=>some (.bool (!(Op.bytesLess a b||a==b)))
 | .leq=>some (.bool (Op.bytesLess a b||a==b))
 | .geq=>some (.bool (!(Op.bytesLess a b)))
 | _=>none
def wN:ag→Option Bool
 | .sq | .sr | .u1 | .pM=>some true
 | .ptr _ _ | .bl _ _ | .mQ _ _ | .map _ | .func _ _ _ | .iface _ _=>some false
 | .aF _ _ .nil=>some true
 | .aF _ (_::_) _=>some false
 | .aF _ _ (.own _)=>some false
 | _=>none
inductive GA where|ptr|aF|map|func|iface
def Lt:Operand→Option GA
 | .const (.pointer none)=>some .ptr
 | .const (.slice none 0 0)=>some .aF
 | .const (.map none)=>some .map
 | .const .nilFunc=>some .func
 | .const .nilIface=>some .iface
 | _=>none
def tC.C6:tC→GA→Bool
 | .ptr _,.ptr=>true
 | .aF _,.aF=>true
 | .map _ _,.map=>true
 | .func,.func=>true
 | .iface _,.iface=>true
 | _,_=>false
def ag.C7:ag→GA→Bool
 | .sq,.ptr | .ptr _ _,.ptr | .bl _ _,.ptr | .mQ _ _,.ptr=>true
 | .aF _ _ _,.aF=>true
 | .sr,.map | .map _,.map=>true
 | .u1,.func | .func _ _ _,.func=>true
 | .pM,.iface | .iface _ _,.iface=>true
 | _,_=>false
def C8 (Γ:cz) (op:BinOp) (t:TypeId) (y:Operand) (a b:ag):Option ag:=
  match Lt y with
  | some k=>match Γ.get? t with
    | some i=>match i.bN.C6 k,a.C7 k,wN a,op with
      | true,true,some q,.eql=>some (.bool q)
      | true,true,some q,.neq=>some (.bool (!q))
      | _,_,_,_=>none
    | none=>none
  | none=>match a,b with
    | .int k x,.int k' z=>if k=k' then Gy op k x z else none
    | .str x,.str z=>Gz op x z
    | .bool x,.bool z=>match Γ.get? t,op with
      | some ⟨.bool,_,_,_⟩,.eql=>some (.bool (x==z))
      | some ⟨.bool,_,_,_⟩,.neq=>some (.bool (!(x==z)))
      | _,_=>none
    | .mQ x _,.mQ z _=>match Γ.get? t,op with
      | some ⟨.ptr e,_,_,_⟩,.eql=>match Γ.get? e with
        | some ⟨_,_+1,_,_⟩=>some (.bool (x==z))
        | _=>none
      | some ⟨.ptr e,_,_,_⟩,.neq=>match Γ.get? e with
        | some ⟨_,_+1,_,_⟩=>some (.bool (!(x==z)))
        | _=>none
      | _,_=>none
    | _,_=>none
theorem Uv {P:Program} {op:BinOp} {t:TypeId} {k:IntKind} {a b:Int} {x:ag} (h:Gy op k a b=some x) (w:World) (p:bV) :
  ∃ v,(binOp op t (.int k a) (.int k b)).run P w = .ok v w∧Rel w p v x:=by
 cases op<;>simp only [Gy] at h<;>cases h<;>simp only [binOp,ne_eq,not_true_eq_false,al0,Op.intArith,Op.intCmp,ai5] <;>
  first|exact ⟨_,rfl,.int _ _⟩|exact ⟨_,rfl,.bool _⟩
theorem Uw {P:Program} {op:BinOp} {t:TypeId} {a b:ByteArray} {x:ag} (h:Gz op a.data.toList b.data.toList=some x) (w:World) (p:bV) :
  ∃ v,(binOp op t (.string a) (.string b)).run P w = .ok v w∧Rel w p v x:=by
 cases op<;>simp only [Gz] at h<;>cases h<;>simp only [binOp,Op.stringOp,ai5,ByteArray.toList_eq]<;>exact ⟨_,rfl,.bool _⟩
theorem Lu {w:World} {b:Nat} {x:TypeId×Nat} (h:w.kM b=some x):∃ c T,w.heap[b]? = some (.cells c T (0,0)):=by
 unfold World.kM at h;split at h
 ·rename_i c T c4;exact ⟨c,T,c4⟩
 ·cases h
theorem tD {P:Program} {op:BinOp} {t:TypeId} {x y:Operand} {a b:Value} (w:World) (h:(a = .nilIface∧b = .nilIface→∃ c,y = .const c)∧(∀ c,a ≠ .agg c)) :
  (eqGuard op t x y a b).run P w = .ok () w:=by
 cases a with
 | nilIface=>
  cases b with
  | nilIface=>
   obtain ⟨c,rfl⟩:=h.1 ⟨rfl,rfl⟩;cases x<;>cases op<;>rfl
  | _=>cases op<;>rfl
 | agg c=>exact absurd C (h.2 c)
 | _=>cases op<;>rfl
theorem wO {P:Program} {t:TypeId} {x y:Value} {q:Bool} {w:World} (aq:binOp .eql t x y=(do pure (.bool (← Op.equal t x y)))) (av:binOp .neq t x y=(do pure (.bool (!(← Op.equal t x y)))))
  (h:∀ d,(Op.equalIn (d+1) t x y).run P w = .ok q w):(binOp .eql t x y).run P w = .ok (.bool q) w∧(binOp .neq t x y).run P w = .ok (.bool (!q)) w:=by
 have he:(Op.equal t x y).run P w = .ok q w:=h 9999;rw [aq,av];simp only [H1,he,i0,ai5,and_self]
theorem Ux {w:World} {p:bV} {v:Value} {sz:Nat} {xs:List ag} {own:bM} {q:Bool} (h:Rel w p v (.aF sz xs own)) (bf:wN (.aF sz xs own)=some q) :
  (v = .slice none 0 0∧q=true)∨(∃ a n c,v = .slice (some a) n c∧q=false):=by
 cases h with
 | iA _ _ ai=>
  cases own<;>simp [wN] at bf
  ·exact .inl ⟨rfl,by simp [bf]⟩
  ·exact absurd C (ai _)
 | jo a _ _ ai=>rcases ai with rfl|rfl<;>simp [wN] at bf
 | aF g off n cap _ vs _ _ av aE aw aC al hm ax cm ai=>
  refine .inr ⟨_,_,_,rfl,?_⟩;cases own<;>cases xs<;>simp [wN] at bf av<;>simp [bf]
theorem Uy {P:Program} {Γ:cz} (aP:bX P Γ) {N:Nat} {B:fP} {ro:Option Nat} {env:Env} {s:ao} {a:Act} {w:World} {p:bV} (aI:dx N B ro env s a w p)
  {op:BinOp} {t yt:TypeId} {x y:Operand} {u v r:ag} (aa:aL env x=some u) (ar:aL env y=some v) (h:C8 Γ op t y u v=some r) :
  ∃ val,(do eqGuard op t x y (a.eval x) (a.eval y);binOp op t (a.eval x) (a.eval y):Sem Value).run P w = .ok val w∧Rel w p val r:=by
 have hu:=aI.aL aa;have aD:=aI.aL ar;unfold C8 at h;split at h
 ·rename_i k ax
  have Uz:∃ c,y = .const c∧a.eval y=c∧((k = .ptr∧c = .pointer none)∨(k = .aF∧c = .slice none 0 0)∨(k = .map∧c = .map none)∨(k = .func∧c = .nilFunc)∨(k = .iface∧c = .nilIface)):=by
   unfold Lt at ax;split at ax<;>cases ax<;>exact ⟨_,rfl,rfl,by simp⟩
  obtain ⟨c,rfl,aw,C9⟩:=Uz;rw [aw];split at h
  ·rename_i i aQ
   obtain ⟨info,d,U,ad,aj,-⟩:=aP.parts aQ;have key:∀ q,wN u=some q→u.C7 k=true→i.bN.C6 k=true→(∀ cs,a.eval x ≠ .agg cs)∧(binOp .eql t (a.eval x) c).run P w = .ok (.bool q) w∧(binOp .neq t (a.eval x) c).run P w = .ok (.bool (!q)) w:=by
    intro q bf aZ ai;generalize a.eval x=dy at hu;rw [← aj] at ai;have al:∀ (g n cap:Nat) (o:Nat),True:=fun _ _ _ _=>trivial
    have dt:∀ e sz xs own,d = .slice e→u = .aF sz xs own→(∀ cs,dy ≠ .agg cs)∧(binOp .eql t dy (.slice none 0 0)).run P w = .ok (.bool q) w∧(binOp .neq t dy (.slice none 0 0)).run P w = .ok (.bool (!q)) w:=by
     rintro e sz xs own rfl rfl;rcases Ux hu bf with ⟨rfl,rfl⟩|⟨a,n,c,rfl,rfl⟩<;>(refine ⟨by simp,wO C C (fun d=>?_)⟩<;>simp [Op.equalIn,run_underlying ad])
    rcases C9 with ⟨rfl,rfl⟩|⟨rfl,rfl⟩|⟨rfl,rfl⟩|⟨rfl,rfl⟩|⟨rfl,rfl⟩ <;>
    (try (cases d<;>simp only [ec,tC.C6] at ai<;>(try (simp at ai;done))<;>cases u<;>simp only [ag.C7] at aZ<;>(try (simp at aZ;done))<;>exact dt _ _ _ _ C C)) <;>
    cases d<;>simp only [ec,tC.C6] at ai<;>(try (simp at ai;done)) <;>
    cases hu<;>simp only [ag.C7,wN] at aZ bf<;>(try (simp at aZ;done)) <;>
    (try (cases bf)) <;>
    (refine ⟨by simp,wO C C (fun d=>?_)⟩<;>simp [Op.equalIn,run_underlying ad]<;>done)
   split at h
   ·rename_i q ai aZ bf
    cases h;obtain ⟨ck,cL,ev⟩:=key q bf aZ ai;exact ⟨_,by rw [H1,tD w ⟨fun _=>⟨_,rfl⟩,ck⟩,i0,cL],.bool _⟩
   ·rename_i q ai aZ bf
    cases h;obtain ⟨ck,cL,ev⟩:=key q bf aZ ai;exact ⟨_,by rw [H1,tD w ⟨fun _=>⟨_,rfl⟩,ck⟩,i0,ev],.bool _⟩
   ·cases h
  ·cases h
 ·split at h
  ·rename_i k z k' ahV
   split at h
   ·rename_i l8
    subst l8;generalize a.eval x=dy at hu;generalize a.eval y=fX at aD;cases hu;cases aD;obtain ⟨val,U,ad⟩:=Uv (P:=P) (t:=t) h w p;exact ⟨val,by rw [H1,tD w ⟨by simp,by simp⟩,i0,U],ad⟩
   ·cases h
  ·generalize a.eval x=dy at hu;generalize a.eval y=fX at aD
   cases hu with|str gD _ bT=>cases aD with|str fp _ bI=>
   subst bT;subst bI;obtain ⟨val,U,ad⟩:=Uw (P:=P) (t:=t) h w p;exact ⟨val,by rw [H1,tD w ⟨by simp,by simp⟩,i0,U],ad⟩
  ·generalize a.eval x=dy at hu;generalize a.eval y=fX at aD
   cases hu;cases aD;split at h
   ·rename_i aQ
    obtain ⟨info,d,U,ad,aj,-⟩:=aP.parts aQ;have aA:d = .bool:=by cases d<;>simp [ec] at aj;rfl
    subst aA;cases h;exact ⟨_,by rw [H1,tD w ⟨by simp,by simp⟩,i0];exact run_eql_bool w t _ _ ad,.bool _⟩
   ·rename_i aQ
    obtain ⟨info,d,U,ad,aj,-⟩:=aP.parts aQ;have aA:d = .bool:=by cases d<;>simp [ec] at aj;rfl
    subst aA;cases h;exact ⟨_,by rw [H1,tD w ⟨by simp,by simp⟩,i0];exact run_neq_bool w t _ _ ad,.bool _⟩
   ·cases h
  ·rename_i gD agv fp hV
   generalize a.eval x=dy at hu;generalize a.eval y=fX at aD;cases hu;cases aD;rename_i v1 l' s1 cx eD v2 ld s2 cE fh;have key:∀ e d i,P.underlying t=some (.pointer e)→Γ.get? e=some i→i.size≠0→(Op.equalIn (d+1) t (.pointer (some ⟨gD,0,none⟩)) (.pointer (some ⟨fp,0,none⟩))).run P w = .ok (gD==fp) w:=by
    intro e d i he aQ bn;obtain ⟨nB,db,pO,nC,sv,tE,-⟩:=aP.parts aQ;have b6:nB.size≠0:=by rw [tE];exact bn
    have al:(sameAddr ⟨gD,0,none⟩ ⟨fp,0,none⟩).run P w = .ok (gD==fp) w:=by
     by_cases aq:gD=fp
     ·subst aq;rw [beq_self_eq_true];exact run_sameAddr_same w _
     ·rw [beq_eq_false_iff_ne.2 aq]
      obtain ⟨ah1,ah2,ck⟩:=Lu s1.choose_spec;obtain ⟨ah8,ahT,cL⟩:=Lu s2.choose_spec;exact run_sameAddr_other w (fun e=>aq (ak5 Addr.block e)) ck cL
    simp only [Op.equalIn,H1,run_underlying he,i0,sizeOf,typeInfo,run_program,pO,ai5];rw [f7 (by simpa using b6)];exact al
   split at h
   ·rename_i aQ
    obtain ⟨info,d,U,ad,aj,-⟩:=aP.parts aQ;obtain ⟨e,rfl⟩:∃ e,d = .pointer e:=by cases d<;>simp [ec] at aj;exact ⟨_,rfl⟩
    simp only [ec,tC.ptr.injEq] at aj;subst aj;split at h
    ·rename_i he
     cases h;exact ⟨_,by rw [H1,tD w ⟨by simp,by simp⟩,i0];exact (wO C C fun d=>key e d _ ad he bc).1,.bool _⟩
    ·cases h
   ·rename_i aQ
    obtain ⟨info,d,U,ad,aj,-⟩:=aP.parts aQ;obtain ⟨e,rfl⟩:∃ e,d = .pointer e:=by cases d<;>simp [ec] at aj;exact ⟨_,rfl⟩
    simp only [ec,tC.ptr.injEq] at aj;subst aj;split at h
    ·rename_i he
     cases h;exact ⟨_,by rw [H1,tD w ⟨by simp,by simp⟩,i0];exact (wO C C fun d=>key e d _ ad he bc).2,.bool _⟩
    ·cases h
   ·cases h
  ·cases h
def gu (env:Env):List Operand→Option (List ag)
  | []=>some []
  | o::r=>match aL env o with
    | some v=>match gu env r with
      | some vs=>some (v::vs)
      | none=>none
    | none=>none
theorem C' {N:Nat} {B:fP} {ro:Option Nat} {env:Env} {s:ao} {a:Act} {w:World} {p:bV} (aI:dx N B ro env s a w p) {l:List Operand} {vs:List ag}
  (h:gu env l=some vs):b4 w p (l.map a.eval) vs:=by
 induction l generalizing vs with
 | nil=>cases h;exact .nil
 | cons o r a8=>
  simp only [gu] at h;split at h
  ·rename_i v aD
   split at h
   ·rename_i us hu;cases h;exact .cons _ _ _ _ (aI.aL aD) (a8 hu)
   ·cases h
  ·cases h
def c5:Nat→List ag→List ag→List ag
 | _,[],cells=>cells
 | off,c::cs,cells=>c5 (off+1) cs (cells.set off c)
def wP (place:Nat→Option (Nat×Nat)):List ag→List (Nat×ag)→Option (List ag)
  | cells,[]=>some cells
  | cells,(i,v)::rest=>match place i,cellsOf v with
    | some (off,size),some cs=>match aj4 cs.length size&&ar4 (off+size) cells.length with
      | true=>wP place (c5 off cs cells) rest
      | false=>none
    | _,_=>none
def placesOf (Γ:cz):List (Nat×TypeId)→Option (List (Nat×Nat))
  | []=>some []
  | (off,t)::r=>match Γ.get? t with
    | some i=>match placesOf Γ r with
      | some l=>some ((off,i.size)::l)
      | none=>none
    | none=>none
def wQ (env:Env):List (Nat×Operand)→Option (List (Nat×ag))
  | []=>some []
  | (i,o)::r=>match aL env o with
    | some v=>match wQ env r with
      | some l=>some ((i,v)::l)
      | none=>none
    | none=>none
def AG (env:Env) (sz:Nat):Nat→List (Nat×Operand)→Option (List ag)
  | _,[]=>some []
  | k,(i,o)::r=>match aj4 i k with
    | true=>match aL env o with
      | some v=>match cellsOf v with
        | some cs=>match aj4 cs.length sz with
          | true=>match AG env sz (k+1) r with
            | some l=>some (v::l)
            | none=>none
          | false=>none
        | none=>none
      | none=>none
    | false=>none
def sw (Γ:cz) (o:Oper) (env:Env):Option ag:=
  match o.op with
  | .move x=>aL env x
  | .assign x=>aL env x
  | .pick c a b=>match aL env c with
    | some (.bool true)=>aL env a
    | some (.bool false)=>aL env b
    | _=>none
  | .binOp op t x y _=>match aL env x,aL env y with
    | some a,some b=>C8 Γ op t y a b
    | _,_=>none
  | .unOp .not _ x=>match aL env x with
    | some (.bool b)=>some (.bool (!b))
    | _=>none
  | .extract x i=>match aL env x with
    | some (.bW vs)=>nth vs i
    | _=>none
  | .fieldAddr s x f=>match Γ.get? s with
    | some ⟨.struct hb,_,_,_⟩=>match nth hb f with
      | some (off,t)=>match Γ.get? t with
        | some ⟨_,_+1,_,_⟩=>match aL env x with
          | some (.ptr b o)=>some (.ptr b (o+off))
          | some (.bl cs o)=>some (.bl cs (o+off))
          | some (.mQ _ cs)=>some (.bl cs off)
          | _=>none
        | _=>none
      | none=>none
    | _=>none
  | .field s x f=>match Γ.get? s with
    | some ⟨.struct hb,_,_,_⟩=>match nth hb f with
      | some (off,t)=>match Γ.get? t with
        | some i=>match aL env x with
          | some (.agg cs)=>hB i cs off
          | _=>none
        | none=>none
      | none=>none
    | _=>none
  | .load t x=>match Γ.get? t with
    | some i=>match aL env x with
      | some (.bl cs o)=>hB i cs o
      | some (.mQ _ cs)=>hB i cs 0
      | _=>none
    | none=>none
  | .makeInterface t x=>match Γ.get? t with
    | some ⟨.iface _,_,_,_⟩=>none
    | some _=>match aL env x with
      | some v=>some (.iface t v)
      | none=>none
    | none=>none
  | .makeFunc (.func f) first cap=>match gu env first.toList,gu env cap.toList with
    | some a,some c=>some (.func f a c)
    | _,_=>none
  | .nilCheck x=>match aL env x with
    | some (.ptr b o)=>some (.ptr b o)
    | some (.bl cs o)=>some (.bl cs o)
    | some (.mQ b cs)=>some (.mQ b cs)
    | some (.func f a c)=>some (.func f a c)
    | _=>none
  | .typeAssert x _ t ok=>match Γ.get? t with
    | some ⟨.iface _,_,_,_⟩=>none
    | some i=>match aL env x with
      | some (.iface bR v)=>match aj4 bR t,ok with
        | true,true=>some (.bW [v,.bool true])
        | true,false=>some v
        | false,true=>match ij i.zero with
          | some z=>some (.bW [z,.bool false])
          | none=>none
        | false,false=>none
      | some .pM=>match ok with
        | true=>match ij i.zero with
          | some z=>some (.bW [z,.bool false])
          | none=>none
        | false=>none
      | _=>none
    | none=>none
  | .call { callee := .builtin .len,args,argTypes }=>match args.toList,argTypes.toList with
    | [x],[t]=>match Γ.get? t with
      | some ⟨.aF _,_,_,_⟩=>match aL env x with
        | some (.aF _ xs _)=>some (.int .i64 xs.length)
        | _=>none
      | some ⟨.str,_,_,_⟩=>match aL env x with
        | some (.str l)=>some (.int .i64 l.length)
        | _=>none
      | _=>none
    | _,_=>none
  | .box _ x=>match aL env x with
    | some v=>match cellsOf v with
      | some cs=>some (.bl cs 0)
      | none=>none
    | none=>none
  | .build t parts=>match Γ.get? t with
    | some ⟨.struct hb,_,_,z⟩=>match placesOf Γ hb,ij z,wQ env parts.toList with
      | some pl,some (.agg aO),some ps=>match wP (nth pl) aO ps with
        | some cs=>some (.agg cs)
        | none=>none
      | _,_,_=>none
    | some ⟨.arr _ e,_,_,z⟩=>match Γ.get? e,ij z,wQ env parts.toList with
      | some aJ,some (.agg aO),some ps=>match wP (fun i=>some (i*aJ.size,aJ.size)) aO ps with
        | some cs=>some (.agg cs)
        | none=>none
      | _,_,_=>none
    | _=>none
  | .buildSlice t len parts=>match Γ.get? t with
    | some ⟨.aF e,_,_,_⟩=>match Γ.get? e with
      | some aJ=>match aj4 parts.size len&&(ar4 (len*aJ.size) 16777216&&ar4 len 16777216) with
        | true=>match AG env aJ.size 0 parts.toList with
          | some xs=>some (.aF aJ.size xs .clip)
          | none=>none
        | false=>none
      | none=>none
    | _=>none
  | _=>none
def gT (P:Program) (o:Oper) (a:Act) (w:World) (p:bV) (v:ag):Prop:=
 ∃ val w' bg,(execOp a.eval o).run P w = .ok (.value val) w'∧Rel w' bg val v∧c2 w p w' bg∧(∀ s,dn w p s→Kept s s w p w' bg∧dn w' bg s)
theorem gT.same {P:Program} {o:Oper} {a:Act} {w:World} {p:bV} {v:ag} {val:Value} (h:(execOp a.eval o).run P w = .ok (.value val) w) (aC:Rel w p val v) :
  gT P o a w p v:=⟨val,w,p,h,aC,.refl w p,fun s al=>⟨.refl s w p,al⟩⟩
theorem gT.alloc {P:Program} {o:Oper} {a:Act} {w:World} {p:bV} {v:ag} {val:Value} (vs:Array Value) (t:TypeId) (au:∀ b o,p b o→b<w.heap.size)
  (h:(execOp a.eval o).run P w = .ok (.value val) (w.alloc (.cells vs t))) (aC:Rel (w.alloc (.cells vs t)) (p.dT w.heap.size True) val v) :
  gT P o a w p v:=
 ⟨val,_,_,h,aC,u3 au _ _,fun _ al=>⟨C3 _ _,AE al _ _⟩⟩
theorem aX.mR {P:Program} {N:Nat} {o:Oper} {env:Env} {s:ao} {v:ag} (aA:gS o=true)
  (h:∀ ro B a w p,dx N B ro env s a w p→gT P o a w p v):aX P N o env s (fun x an=>x=v∧an=s) (fun _ _=>False):=by
 refine ⟨aA,fun ro B a w p aI=>?_⟩;obtain ⟨val,w',bg,cI,aC,hle,ax⟩:=h ro B a w p aI;rw [cI];obtain ⟨ma,iB⟩:=ax s aI.wf;exact ⟨s,bg,hle,ma,iB,v,⟨rfl,rfl⟩,aC⟩
theorem gb {P:Program} {x:Sem Value} {v:Value} {w w':World} (h:x.run P w = .ok v w'):(do pure (.value (← x)):Sem Next).run P w = .ok (.value v) w':=by
 simp only [H1,h,i0,ai5]
theorem lf (b o n:Nat):(⟨b,o,none⟩:Addr).add n=⟨b,o+n,none⟩:=by
 unfold Addr.add;split<;>simp_all
theorem Lv {w:World} {p:bV} {vs:List Value} {cells r:List ag} {off:Nat} (aC:b4 w p vs cells) (h:rm off cells=some r):b4 w p (vs.drop off) r:=by
 rw [Ut h];exact aC.drop off
theorem AH {P:Program} {Γ:cz} (aP:bX P Γ) {t:TypeId} {i:bQ} (aQ:Γ.get? t=some i) {w:World} {p:bV} {b base off:Nat} {vs:List Value} {cells:List ag} {v:ag}
  (aw:∀ j u,vs[j]? = some u→w.cell? ⟨b,base+j,none⟩=some u) (aC:b4 w p vs cells) (h:hB i cells off=some v) :
  ∃ val,(loadVar t ⟨b,base+off,none⟩).run P w = .ok val w∧Rel w p val v:=by
 obtain ⟨info,d,U,ad,aj,bk,-⟩:=aP.parts aQ;unfold hB at h;split at h
 ·cases h
 ·rename_i r aA
  have kN:=Lv aC aA;have ky:∀ j u,(vs.drop off)[j]? = some u→w.cell? ((⟨b,base+off,none⟩:Addr).add j)=some u:=by
   intro j u hu;rw [lf,at1];exact aw _ _ (by simpa using hu)
  split at h
  ·rename_i hb bw
   split at h
   ·rename_i cs iC
    cases h;obtain ⟨rfl,hlen⟩:=C5 iC;obtain ⟨f,rfl,-⟩:=AF (aj.trans bw);have aE:((vs.drop off).take i.size).length=info.size:=by rw [ah',kN.length,bk];omega
    have AI:=run_loadCells_list (P:=P) w ⟨b,base+off,none⟩ ((vs.drop off).take i.size) (fun j u hu=>ky j u (by
     rw [al'] at hu;split at hu;exact hu;cases hu))
    rw [aE] at AI;refine ⟨_,?_,.agg _ _ (by simpa using kN.take i.size)⟩;simp only [loadVar,H1,yM ad,i0,wL,ak2,sizeOf,typeInfo,run_program,U,ai5,AI]
   ·cases h
  ·rename_i Lw js bw
   split at h
   ·rename_i cs iC
    cases h;obtain ⟨rfl,hlen⟩:=C5 iC;obtain rfl:=wM (aj.trans bw);have aE:((vs.drop off).take i.size).length=info.size:=by rw [ah',kN.length,bk];omega
    have AI:=run_loadCells_list (P:=P) w ⟨b,base+off,none⟩ ((vs.drop off).take i.size) (fun j u hu=>ky j u (by
     rw [al'] at hu;split at hu;exact hu;cases hu))
    rw [aE] at AI;refine ⟨_,?_,.agg _ _ (by simpa using kN.take i.size)⟩;simp only [loadVar,H1,yM ad,i0,wL,ak2,sizeOf,typeInfo,run_program,U,ai5,AI]
   ·cases h
  ·cases h
  ·rename_i al bp ai
   split at h
   ·rename_i x xs
    cases h;generalize Lx:vs.drop off=UA at kN ky;cases kN with
    | cons u _ us _ aa aN=>
    have AJ:=ky 0 u C;rw [lf,as8] at AJ;refine ⟨u,?_,aa⟩;have GB:=Ls (d:=d) (fun hb=>by rw [aj];exact al hb) (fun n e=>by rw [aj];exact bp n e) (by rw [aj];exact ai);simp [loadVar,yM ad,GB,AJ]
   ·cases h
theorem UB {P:Program} {Γ:cz} (aP:bX P Γ) {t:TypeId} {i:bQ} (aQ:Γ.get? t=some i) {w:World} {p:bV} {off:Nat} {vs:Array Value} {cells:List ag} {v:ag}
  (aC:b4 w p vs.toList cells) (h:hB i cells off=some v):∃ val,(part t vs off).run P w = .ok val w∧Rel w p val v:=by
 obtain ⟨info,d,U,ad,aj,bk,-⟩:=aP.parts aQ;unfold hB at h;split at h
 ·cases h
 ·rename_i r aA
  have kN:=Lv aC aA;split at h
  ·rename_i hb bw
   split at h
   ·rename_i cs iC
    cases h;obtain ⟨rfl,hlen⟩:=C5 iC;obtain ⟨f,rfl,-⟩:=AF (aj.trans bw);refine ⟨.agg (vs.extract off (off+info.size)),?_,.agg _ _ ?_⟩
    ·simp only [part,H1,yM ad,i0,wL,ak2,sizeOf,typeInfo,run_program,U,ai5]
    ·have:(vs.extract off (off+info.size)).toList=(vs.toList.drop off).take i.size:=by simp [az5,bk]
     rw [this];exact kN.take i.size
   ·cases h
  ·rename_i Lw js bw
   split at h
   ·rename_i cs iC
    cases h;obtain ⟨rfl,hlen⟩:=C5 iC;obtain rfl:=wM (aj.trans bw);refine ⟨.agg (vs.extract off (off+info.size)),?_,.agg _ _ ?_⟩
    ·simp only [part,H1,yM ad,i0,wL,ak2,sizeOf,typeInfo,run_program,U,ai5]
    ·have:(vs.extract off (off+info.size)).toList=(vs.toList.drop off).take i.size:=by simp [az5,bk]
     rw [this];exact kN.take i.size
   ·cases h
  ·cases h
  ·rename_i al bp ai
   split at h
   ·rename_i x xs
    cases h;generalize Lx:vs.toList.drop off=UA at kN;cases kN with
    | cons u _ us _ aa aN=>
    have bn:vs[off]? = some u:=by
     have:=ak5 (fun l=>l[0]?) Lx;simpa using this
    refine ⟨u,?_,aa⟩;have GB:=Ls (d:=d) (fun hb=>by rw [aj];exact al hb) (fun n e=>by rw [aj];exact bp n e) (by rw [aj];exact ai);simp [part,yM ad,GB,bn]
   ·cases h
theorem UC {w:World} {p:bV}:∀ (us:List Value) (cs:List ag) (off:Nat) (vs:List Value) (xs:List ag),b4 w p us cs→b4 w p vs xs →
  b4 w p ((us.zipIdx).foldl (fun l (c,j)=>l.set (off+j) c) vs) (c5 off cs xs):=by
 have key:∀ (us:List Value) (cs:List ag) (off k:Nat) (vs:List Value) (xs:List ag),b4 w p us cs→b4 w p vs xs →
   b4 w p ((us.zipIdx k).foldl (fun l (c,j)=>l.set (off+j) c) vs) (c5 (off+k) cs xs):=by
  intro us
  induction us with
  | nil=>intro cs off k vs xs h aD;cases h;exact aD
  | cons u us a8=>
   intro cs off k vs xs h aD;cases h with
   | cons _ c _ cs aw aN=>
    simp only [aB4,ak9,c5];have:=a8 cs off (k+1) _ _ aN (aD.set (off+k) aw);rwa [← at1] at this
 intro us cs off vs xs h aD;simpa using key us cs off 0 vs xs h aD
theorem Ly (l:List (Value×Nat)) (off:Nat):∀ (vs:Array Value),(l.foldl (fun cs (c,j)=>cs.setIfInBounds (off+j) c) vs).toList=l.foldl (fun cs (c,j)=>cs.set (off+j) c) vs.toList:=by
 induction l with
 | nil=>intro vs;rfl
 | cons x l a8=>intro vs;simp only [ak9,a8,Array.toList_setIfInBounds]
theorem Lz {w:World} {p:bV} {place:Nat→Option (Nat×Nat)}:∀ (ps:List (Nat×Value)) (oa:List (Nat×ag)) (vs:Array Value) (xs r:List ag),
  ps.map (·.1)=oa.map (·.1)→b4 w p (ps.map (·.2)) (oa.map (·.2))→b4 w p vs.toList xs→wP place xs oa=some r →
  ∃ cs,Instr.fill place vs ps=some cs∧b4 w p cs.toList r:=by
 intro ps
 induction ps with
 | nil=>
  intro oa vs xs r U ad aj h;cases oa with
  | nil=>cases h;exact ⟨vs,rfl,aj⟩
  | cons q oa=>simp at U
 | cons x ps a8=>
  intro oa vs xs r U ad aj h;cases oa with
  | nil=>simp at U
  | cons q oa=>
   obtain ⟨i,v⟩:=x;obtain ⟨C4,u⟩:=q;simp only [ai2,List.cons.injEq] at U;obtain ⟨rfl,U⟩:=U;simp only [ai2] at ad;cases ad with
   | cons _ _ _ _ aD aN=>
   simp only [wP] at h;split at h
   ·rename_i off size cs aB iC
    split at h
    ·rename_i u5
     simp only [d6] at u5;have b6:=ai3 u5.1;have hle:=as6 u5.2;have pP:=su aD iC;have gE:v.cells.size=size:=by rw [← b6,← pP.length,ai8]
     have fi:vs.size=xs.length:=by rw [← aj.length,ai8]
     have LA:=UC _ _ off _ _ pP aj;have bO:v.cells.toList.zipIdx=(v.cells.zipIdx).toList:=by simp
     rw [bO,← Ly] at LA;obtain ⟨out,ai,AK⟩:=a8 oa _ _ r U aN LA h;refine ⟨out,?_,AK⟩;simp only [Instr.fill,aB];rw [f4 (by simp [gE];omega),← ai,← aA3]
    ·cases h
   ·cases h
theorem LB {N:Nat} {B:fP} {ro:Option Nat} {env:Env} {s:ao} {a:Act} {w:World} {p:bV} (aI:dx N B ro env s a w p) {l:List (Nat×Operand)} {oa:List (Nat×ag)}
  (h:wQ env l=some oa):(l.map fun x=>(x.1,a.eval x.2)).map (·.1)=oa.map (·.1)∧b4 w p ((l.map fun x=>(x.1,a.eval x.2)).map (·.2)) (oa.map (·.2)):=by
 induction l generalizing oa with
 | nil=>cases h;exact ⟨rfl,.nil⟩
 | cons x l a8=>
  obtain ⟨i,o⟩:=x;simp only [wQ] at h;split at h
  ·rename_i v aD
   split at h
   ·rename_i r aC
    cases h;obtain ⟨U,ad⟩:=a8 aC;exact ⟨by simp only [ai2,U],.cons _ _ _ _ (aI.aL aD) ad⟩
   ·cases h
  ·cases h
theorem UD {P:Program} {Γ:cz} (aP:bX P Γ) (hb:List Field):∀ {pl:List (Nat×Nat)},placesOf Γ (hb.map fun x=>(x.offset,x.type))=some pl →
  hb.mapM (fun f=>(P.info? f.type).map fun i=>(f.offset,i.size))=some pl:=by
 induction hb with
 | nil=>intro pl h;cases h;rfl
 | cons f hb a8=>
  intro pl h;simp only [ai2,placesOf] at h;split at h
  ·rename_i i aQ
   split at h
   ·rename_i l aE
    cases h;obtain ⟨info,d,U,-,-,bk,-⟩:=aP.parts aQ;simp [aC4,U,a8 aE,bk]
   ·cases h
  ·cases h
theorem LC (sz:Nat):∀ (vs:List Value) (k:Nat) (pre post:List Value),pre.length=k*sz→post.length=vs.length*sz→(∀ v∈vs,v.cells.size=sz) →
  Instr.fill (fun i=>some (i*sz,sz)) (pre++post).toArray ((vs.zipIdx k).map fun x=>(x.2,x.1))=some (pre++flat vs).toArray:=by
 intro vs
 induction vs with
 | nil=>intro k pre post U ad aj;have:post=[]:=ak7 (by simpa using ad);subst this;simp [Instr.fill,flat]
 | cons v vs a8=>
  intro k pre post U ad aj;have aD:=aj v (g8 ..);simp only [aB4,ai2,Instr.fill];have hlen:post.length=sz+vs.length*sz:=by rw [ad,i9,ao2];omega
  rw [f4 (by simp [aD];omega)];have AL:(Array.foldl (fun cs x=>cs.setIfInBounds (k*sz+x.2) x.1) (pre++post).toArray v.cells.zipIdx)=((pre++v.cells.toList)++post.drop sz).toArray:=by
   apply at';rw [← aA3];have:=Ly v.cells.zipIdx.toList (k*sz) (pre++post).toArray;simp only at this ⊢;rw [this];have bO:v.cells.zipIdx.toList=v.cells.toList.zipIdx:=by simp
   rw [bO];have gen:∀ (us:List Value) (j:Nat) (a b:List Value),a.length=k*sz+j→us.length≤b.length →
     (us.zipIdx j).foldl (fun cs (x:Value×Nat)=>cs.set (k*sz+x.2) x.1) (a++b)=a++us++b.drop us.length:=by
    intro us
    induction us with
    | nil=>intro j a b _ _;simp
    | cons u us UE=>
     intro j a b bp aq;cases b with
     | nil=>simp at aq
     | cons c b=>
      simp only [aB4,ak9,i9,az7];have:(a++c::b).set (k*sz+j) u=(a++[u])++b:=by
       rw [List.set_append_right _ _ ak];have:k*sz+j-a.length=0:=by omega
       rw [this];simp
      rw [this,UE (j+1) (a++[u]) b ez (by simpa using aq)];simp
   have gm:v.cells.toList.length=sz:=by rw [ai8,aD]
   have:=gen v.cells.toList 0 pre post ak (by rw [gm];omega);rw [gm] at this;simpa using this
  rw [AL];have:=a8 (k+1) (pre++v.cells.toList) (post.drop sz) (by simp [U,aD,ao2]) (by rw [an0,hlen];omega) (fun u hu=>aj u (f9 _ hu));rw [this];simp [flat,am0]
theorem UF {N:Nat} {B:fP} {ro:Option Nat} {env:Env} {s:ao} {a:Act} {w:World} {p:bV} (aI:dx N B ro env s a w p) {sz:Nat}:∀ {l:List (Nat×Operand)} {k:Nat} {xs:List ag},
    AG env sz k l=some xs→∃ vs:List Value,(l.map fun x=>(x.1,a.eval x.2))=(vs.zipIdx k).map (fun x=>(x.2,x.1))∧b4 w p vs xs∧(∀ v∈vs,v.cells.size=sz)∧vs.length=l.length:=by
  intro l
  induction l with
  | nil=>intro k xs h;cases h;exact ⟨[],rfl,.nil,by simp,rfl⟩
  | cons x l a8=>
    intro k xs h;obtain ⟨i,o⟩:=x;simp only [AG] at h;split at h
    · rename_i aq
      split at h
      · rename_i v aD
        split at h
        · rename_i cs iC
          split at h
          · rename_i aE
            split at h
            · rename_i r aC
              cases h;have:=ai3 aq;subst this;obtain ⟨vs,U,ad,aj,bk⟩:=a8 aC;have eG:=aI.aL aD;have b6:(a.eval o).cells.size=sz:=by
                rw [← ai3 aE,← (su eG iC).length,ai8]
              exact ⟨a.eval o::vs,by simp [U],.cons _ _ _ _ eG ad,by
                intro u hu;rcases ai1.1 hu with rfl|hu;exact b6;exact aj u hu,by simp [bk]⟩
            · cases h
          · cases h
        · cases h
      · cases h
    · cases h
section
variable {P:Program} {Γ:cz} (aP:bX P Γ) {N:Nat} {B:fP} {ro:Option Nat} {env:Env} {s:ao} {a:Act} {w:World} {p:bV} (aI:dx N B ro env s a w p)
include aI
theorem LD {o:Oper} {x:Operand} {v:ag} (ai:o.op = .move x∨o.op = .assign x) (h:aL env x=some v):gT P o a w p v:=by
 refine .same (val:=a.eval x) ?_ (aI.aL h);unfold execOp;rcases ai with ai|ai<;>rw [ai]<;>rfl
theorem LF {o:Oper} {c x y:Operand} {v:ag} {t:Bool} (ai:o.op = .pick c x y) (aw:aL env c=some (.bool t)) (h:aL env (if t then x else y)=some v):gT P o a w p v:=by
 refine .same (val:=a.eval (if t then x else y)) ?_ (aI.aL h);unfold execOp;rw [ai];simp only [C2 (aI.aL aw),asBool,H1,ai5,i0];cases t<;>rfl
include aP
theorem UG {o:Oper} {op:BinOp} {t yt:TypeId} {x y:Operand} {u v r:ag} (ai:o.op = .binOp op t x y yt) (aa:aL env x=some u) (ar:aL env y=some v)
  (h:C8 Γ op t y u v=some r):gT P o a w p r:=by
 obtain ⟨val,U,ad⟩:=Uy aP aI (yt:=yt) aa ar h;refine .same (val:=val) ?_ ad;unfold execOp;rw [ai];exact gb U
omit aP in
theorem UH {o:Oper} {t:TypeId} {x:Operand} {b:Bool} (ai:o.op = .unOp .not t x) (aa:aL env x=some (.bool b)):gT P o a w p (.bool (!b)):=by
 refine .same (val := .bool (!b)) ?_ (.bool _);unfold execOp;rw [ai];simp only [C2 (aI.aL aa)];exact gb (by simp [Op.unary])
omit aP in
theorem UI {o:Oper} {x:Operand} {i:Nat} {vs:List ag} {v:ag} (ai:o.op = .extract x i) (aa:aL env x=some (.bW vs)) (h:nth vs i=some v):gT P o a w p v:=by
 have aC:=aI.aL aa;generalize aD:a.eval x=dy at aC;cases aC with
 | bW us _ aE=>
 rw [yL] at h;obtain ⟨u,hu,GC⟩:=aE.get h;refine .same (val:=u) ?_ GC;unfold execOp;rw [ai];simp only [aD]
 exact gb (by
  have:us[i]? = some u:=by simpa using hu
  simp [Instr.extract,this])
theorem GD {o:Oper} {S:TypeId} {x:Operand} {f sz nD:Nat} {hb:List (Nat×TypeId)} {z:Value} {off:Nat} {t:TypeId} {eu:bQ} {v:ag} (ai:o.op = .fieldAddr S x f)
  (cK:Γ.get? S=some ⟨.struct hb,sz,nD,z⟩) (aZ:nth hb f=some (off,t)) (aN:Γ.get? t=some eu) (bn:eu.size≠0)
  (h:(∃ b o,aL env x=some (.ptr b o)∧v = .ptr b (o+off))∨(∃ cs o,aL env x=some (.bl cs o)∧v = .bl cs (o+off))∨(∃ b cs,aL env x=some (.mQ b cs)∧v = .bl cs off)):gT P o a w p v:=by
 obtain ⟨info,d,U,ad,aj,-⟩:=aP.parts cK;obtain ⟨nB,db,pO,nC,sv,tE,-⟩:=aP.parts aN;obtain ⟨iL,rfl,gd⟩:=AF aj;rw [yL,gd,aj6] at aZ;obtain ⟨fd,GF,GG⟩:=ay7.1 aZ;cases GG;have GH:iL[f]? = some fd:=by simpa using GF
 have b6:nB.size≠0:=by rw [tE];exact bn
 have key:∀ b o',a.eval x = .pointer (some ⟨b,o',none⟩)→(execOp a.eval o).run P w = .ok (.value (.pointer (some ⟨b,o'+fd.offset,none⟩))) w:=by
  intro b o' aa;unfold execOp;rw [ai];simp only [aa];refine gb ?_;simp [Instr.fieldAt,run_underlying ad,GH,Instr.sureAddr,fieldPlace,sizeOf,typeInfo,pO,b6,lf]
 rcases h with ⟨b,o',aa,rfl⟩|⟨cs,o',aa,rfl⟩|⟨b,cs,aa,rfl⟩
 ·have aC:=aI.aL aa
  generalize aD:a.eval x=dy at aC;cases aC;exact .same (key _ _ aD) (.ptr _ _)
 ·have aC:=aI.aL aa
  generalize aD:a.eval x=dy at aC;cases aC with
  | bl b base yN off vs _ Da aw hc=>
  exact .same (key _ _ aD) (.bl b base _ _ vs _ ak aw hc)
 ·have aC:=aI.aL aa
  generalize aD:a.eval x=dy at aC;cases aC with
  | mQ b vs _ _ _ aw hc=>
  exact .same (key _ _ aD) (.bl b 0 _ _ vs _ C aw hc)
theorem UJ {o:Oper} {S:TypeId} {x:Operand} {f sz nD:Nat} {hb:List (Nat×TypeId)} {z:Value} {off:Nat} {t:TypeId} {eu:bQ} {cs:List ag} {v:ag} (ai:o.op = .field S x f)
  (cK:Γ.get? S=some ⟨.struct hb,sz,nD,z⟩) (aZ:nth hb f=some (off,t)) (aN:Γ.get? t=some eu) (aa:aL env x=some (.agg cs)) (h:hB eu cs off=some v):gT P o a w p v:=by
 obtain ⟨info,d,U,ad,aj,-⟩:=aP.parts cK;obtain ⟨iL,rfl,gd⟩:=AF aj;rw [yL,gd,aj6] at aZ;obtain ⟨fd,GF,GG⟩:=ay7.1 aZ;cases GG;have GH:iL[f]? = some fd:=by simpa using GF
 have aC:=aI.aL aa;generalize aD:a.eval x=dy at aC;cases aC with
 | agg us _ aE=>
 obtain ⟨val,cI,eG⟩:=UB aP aN aE h;refine .same (val:=val) ?_ eG;unfold execOp;rw [ai];simp only [aD];refine gb ?_;simp [Instr.field,run_underlying ad,GH,asAgg,cI]
theorem LG {o:Oper} {t:TypeId} {x:Operand} {i:bQ} {cs:List ag} {off:Nat} {v:ag} (ai:o.op = .load t x) (aN:Γ.get? t=some i) (aa:aL env x=some (.bl cs off))
  (h:hB i cs off=some v):gT P o a w p v:=by
 have aC:=aI.aL aa;generalize aD:a.eval x=dy at aC;cases aC with
 | bl b base yN _ vs _ Da aw hc=>
 subst Da;obtain ⟨val,cI,eG⟩:=AH aP aN (b:=b) (base:=base) (fun j u hu=>(aw j u hu).2) hc h;refine .same (val:=val) ?_ eG;unfold execOp;rw [ai];simp only [aD];refine gb ?_;simp only [Instr.loadAt,Instr.sureAddr,H1,ai5,i0,cI]
theorem UK {o:Oper} {t:TypeId} {x:Operand} {i:bQ} {cs:List ag} {b:Nat} {v:ag} (ai:o.op = .load t x) (aN:Γ.get? t=some i) (aa:aL env x=some (.mQ b cs))
  (h:hB i cs 0=some v):gT P o a w p v:=by
 have aC:=aI.aL aa;generalize aD:a.eval x=dy at aC;cases aC with
 | mQ b vs _ _ _ aw hc=>
 obtain ⟨val,cI,eG⟩:=AH aP aN (b:=b) (base:=0) (fun j u hu=>(aw j u hu).2) hc h;refine .same (val:=val) ?_ eG;unfold execOp;rw [ai];simp only [aD];refine gb ?_;simp only [Instr.loadAt,Instr.sureAddr,H1,ai5,i0];simpa using cI
theorem UL {o:Oper} {t:TypeId} {x:Operand} {i:bQ} {v:ag} (ai:o.op = .makeInterface t x) (aN:Γ.get? t=some i) (aQ:∀ b,i.bN ≠ .iface b) (aa:aL env x=some v) :
  gT P o a w p (.iface t v):=by
 obtain ⟨info,d,U,ad,aj,-⟩:=aP.parts aN;refine .same (val := .iface t (a.eval x)) ?_ (.iface _ _ _ (aI.aL aa));unfold execOp;rw [ai];refine gb ?_;have aA:∀ ms,d ≠ .interface ms:=fun ms e=>by subst e;exact aQ _ aj.symm
 simp only [Instr.makeInterface,H1,run_underlying ad,i0];cases d<;>first|rfl|exact absurd C (aA _)
omit aP in
theorem UM {o:Oper} {f:FuncId} {first cap:Array Operand} {Db jt:List ag} (ai:o.op = .makeFunc (.func f) first cap) (aZ:gu env first.toList=some Db) (aw:gu env cap.toList=some jt) :
  gT P o a w p (.func f Db jt):=by
 refine .same (val := .func (.func f) (first.map a.eval) (cap.map a.eval)) ?_ (.func _ _ _ _ _ (by simpa using C' aI aZ) (by simpa using C' aI aw));unfold execOp;rw [ai];exact gb C
omit aP in
theorem Dc {o:Oper} {x:Operand} {v:ag} (ai:o.op = .nilCheck x) (aa:aL env x=some v) (h:(∃ b o,v = .ptr b o)∨(∃ cs o,v = .bl cs o)∨(∃ b cs,v = .mQ b cs)∨(∃ f a c,v = .func f a c)):gT P o a w p v:=by
 have aC:=aI.aL aa;refine .same (val:=a.eval x) ?_ aC;unfold execOp;rw [ai];simp only [];rcases h with ⟨b,o',rfl⟩|⟨cs,o',rfl⟩|⟨b,cs,rfl⟩|⟨f,as,cs,rfl⟩<;>generalize aD:a.eval x=dy at aC<;>cases aC<;>rfl
theorem Dd {o:Oper} {x:Operand} {De t:TypeId} {i:bQ} {ok:Bool} {u v:ag} (ai:o.op = .typeAssert x De t ok) (aN:Γ.get? t=some i) (aQ:∀ b,i.bN ≠ .iface b) (aa:aL env x=some u)
  (h:(∃ y,u = .iface t y∧v=if ok then .bW [y,.bool true] else y) ∨
   (ok=true∧(u = .pM∨∃ bR y,bR≠t∧u = .iface bR y)∧∃ z,ij i.zero=some z∧v = .bW [z,.bool false])):gT P o a w p v:=by
 obtain ⟨info,d,U,ad,aj,bk,bF,fx⟩:=aP.parts aN;have aA:∀ ms,d ≠ .interface ms:=fun ms e=>by subst e;exact aQ _ aj.symm
 have aC:=aI.aL aa;generalize aD:a.eval x=dy at aC;have bO:(zeroValue t).run P w = .ok i.zero w:=by simp [zeroValue,typeInfo,U,fx]
 rcases h with ⟨y,rfl,rfl⟩|⟨rfl,hu,z,Df,rfl⟩
 ·cases aC with
  | iface _ val _ ar=>
  have cI:(Instr.typeAssert (.iface t val) De t ok).run P w = .ok (if ok then .tuple #[val,.bool true] else val) w:=by
   cases d<;>first|exact absurd C (aA _)|(simp only [Instr.typeAssert,H1,run_underlying ad,i0,ak2,ai5])
  refine .same (val:=if ok then .tuple #[val,.bool true] else val) ?_ (by cases ok;exact ar;exact .bW _ _ (.cons _ _ _ _ ar (.cons _ _ _ _ (.bool _) .nil)));unfold execOp;rw [ai];simp only [aD];exact gb cI
 ·have cI:(Instr.typeAssert dy De t true).run P w = .ok (.tuple #[i.zero,.bool false]) w:=by
   rcases hu with rfl|⟨bR,y,cN,rfl⟩
   ·cases aC
    cases d<;>first|exact absurd C (aA _)|(simp only [Instr.typeAssert,H1,run_underlying ad,i0,ak2,bO,ai5])
   ·cases aC
    cases d<;>first|exact absurd C (aA _)|(simp only [Instr.typeAssert,H1,run_underlying ad,i0,ak2,f4 cN,bO,ai5])
  refine .same (val := .tuple #[i.zero,.bool false]) ?_ (.bW _ _ (.cons _ _ _ _ (rn Df) (.cons _ _ _ _ (.bool _) .nil)));unfold execOp;rw [ai];simp only [aD];exact gb cI
theorem LH {o:Oper} {x:Operand} {t:TypeId} {i:bQ} {u:ag} {n:Nat} (ai:o.op = .call { callee := .builtin .len,args := #[x],argTypes := #[t] }) (aN:Γ.get? t=some i) (aa:aL env x=some u)
  (h:(∃ e sz xs own,i.bN = .aF e∧u = .aF sz xs own∧n=xs.length)∨(∃ l,i.bN = .str∧u = .str l∧n=l.length)):gT P o a w p (.int .i64 n):=by
 obtain ⟨info,d,U,ad,aj,-⟩:=aP.parts aN;have aC:=aI.aL aa;generalize aD:a.eval x=dy at aC;refine .same (val := .int .i64 n) ?_ (.int _ _);unfold execOp;rw [ai];simp only [resolve,invoke,builtin,H1,ai5,i0,au',ai2,aj5,aD];rcases h with ⟨e,sz,xs,own,bw,rfl,rfl⟩|⟨l,bw,rfl,rfl⟩
 ·have aA:d = .slice e:=by rw [bw] at aj;cases d<;>simp [ec] at aj;rw [aj]
  subst aA;cases aC with
  | iA=>simp [Builtin.len_,run_underlying ad,goInt]
  | jo=>simp [Builtin.len_,run_underlying ad,goInt]
  | aF g off n cap sz vs _ _ av aE aw aC al hm ax cm ai=>simp [Builtin.len_,run_underlying ad,goInt,aE]
 ·have aA:d = .string:=by rw [bw] at aj;cases d<;>simp [ec] at aj;rfl
  subst aA;cases aC with
  | str b _ e=>subst e;simp [Builtin.len_,run_underlying ad,goInt]
omit aP in
theorem UN {o:Oper} {t:TypeId} {x:Operand} {v:ag} {cs:List ag} (ai:o.op = .box t x) (aa:aL env x=some v) (aw:cellsOf v=some cs):gT P o a w p (.bl cs 0):=by
 have aC:=aI.aL aa;have pP:=su aC aw;refine gT.alloc (a.eval x).cells t aI.wf.lt (val := .pointer (some ⟨w.heap.size,0,none⟩)) ?_ ?_
 ·unfold execOp
  rw [ai];exact gb C
 ·refine .bl _ 0 0 0 (a.eval x).cells.toList _ C ?_ (pP.mono (u3 aI.wf.lt _ _))
  have:=Gw (w:=w) (p:=p) (a.eval x).cells.toList t;simpa using this
theorem UO {o:Oper} {t:TypeId} {parts:Array (Nat×Operand)} {hb:List (Nat×TypeId)} {sz nD:Nat} {z:Value} {pl:List (Nat×Nat)} {aO cs:List ag} {ps:List (Nat×ag)}
  (ai:o.op = .build t parts) (aN:Γ.get? t=some ⟨.struct hb,sz,nD,z⟩) (h8:placesOf Γ hb=some pl) (bO:ij z=some (.agg aO)) (mS:wQ env parts.toList=some ps)
  (h:wP (nth pl) aO ps=some cs):gT P o a w p (.agg cs):=by
 obtain ⟨info,d,U,ad,aj,bk,bF,fx⟩:=aP.parts aN;obtain ⟨iL,rfl,gd⟩:=AF aj;rw [gd] at h8;have UP:=UD aP iL.toList h8;have GI:=rn (w:=w) (p:=p) bO;obtain ⟨bT,bI⟩:=LB aI mS;have u6:b4 w p z.cells.toList aO:=su GI C;have UQ:(fun x=>pl.toArray[x]?)=nth pl:=by funext x;rw [yL];simp
 obtain ⟨out,tF,rp⟩:=Lz _ _ z.cells aO cs bT bI u6 h;refine .same (val := .agg out) ?_ (.agg _ _ rp);unfold execOp;rw [ai];refine gb (run_build w t _ out ?_);unfold Program.built;simp only [U,ad,fx,UP];rw [UQ];simpa using tF
theorem UR {o:Oper} {t e:TypeId} {n:Nat} {parts:Array (Nat×Operand)} {sz nD:Nat} {z:Value} {aJ:bQ} {aO cs:List ag} {ps:List (Nat×ag)}
  (ai:o.op = .build t parts) (aN:Γ.get? t=some ⟨.arr n e,sz,nD,z⟩) (he:Γ.get? e=some aJ) (bO:ij z=some (.agg aO)) (mS:wQ env parts.toList=some ps)
  (h:wP (fun i=>some (i*aJ.size,aJ.size)) aO ps=some cs):gT P o a w p (.agg cs):=by
 obtain ⟨info,d,U,ad,aj,bk,bF,fx⟩:=aP.parts aN;obtain ⟨nB,db,pO,nC,sv,tE,wR,Dg⟩:=aP.parts he;obtain rfl:=wM aj;have GI:=rn (w:=w) (p:=p) bO;obtain ⟨bT,bI⟩:=LB aI mS;have u6:b4 w p z.cells.toList aO:=su GI C;obtain ⟨out,tF,rp⟩:=Lz _ _ z.cells aO cs bT bI u6 h;refine .same (val := .agg out) ?_ (.agg _ _ rp);unfold execOp;rw [ai];refine gb (run_build w t _ out ?_);unfold Program.built;simp only [U,ad,fx,pO,tE];simpa using tF
theorem US {o:Oper} {t e:TypeId} {len:Nat} {parts:Array (Nat×Operand)} {sz nD:Nat} {z:Value} {aJ:bQ} {xs:List ag}
  (ai:o.op = .buildSlice t len parts) (aN:Γ.get? t=some ⟨.aF e,sz,nD,z⟩) (he:Γ.get? e=some aJ) (hlen:parts.size=len) (yO:len*aJ.size≤16777216) (agw:len≤16777216)
  (h:AG env aJ.size 0 parts.toList=some xs):gT P o a w p (.aF aJ.size xs .clip):=by
 obtain ⟨info,d,U,ad,aj,-⟩:=aP.parts aN;obtain ⟨nB,db,pO,nC,sv,tE,wR,Dg⟩:=aP.parts he;have aA:d = .slice e:=by cases d<;>simp [ec] at aj;rw [aj]
 subst aA;obtain ⟨vs,bT,bI,eh,mc⟩:=UF aI h;have gm:vs.length=len:=by rw [mc,ai8,hlen]
 have gd:(flat vs).length=len*aJ.size:=by
  rw [← gm];clear bT bI mc gm h
  induction vs with
  | nil=>simp [flat]
  | cons v vs a8=>
   have:=a8 (fun u hu=>eh u (f9 _ hu));simp only [flat,am0,f0,ai8,i9] at this ⊢;rw [eh v (g8 ..)];have eA:(aI4 (fun v=>v.cells.toList) vs).length=vs.length*aJ.size:=this;rw [eA,ao2];omega
 have tF:∀ tG:Array Value,tG.size=len*aJ.size→Instr.fill (fun i=>some (i*aJ.size,aJ.size)) tG (parts.map fun x=>(x.1,a.eval x.2)).toList=some (flat vs).toArray:=by
  intro tG pQ;have:=LC aJ.size vs 0 [] tG.toList bc (by rw [ai8,pQ,gm]) eh;simp only [d0] at this;rw [Array.toList_map,bT];simpa using this
 refine gT.alloc (flat vs).toArray e aI.wf.lt (val := .slice (some ⟨w.heap.size,0,none⟩) len len) ?_ ?_
 ·unfold execOp
  rw [ai];refine gb ?_;have agx:¬ (16777216<len*aJ.size):=by omega
  have wS:¬ (len*aJ.size>2^24):=by omega
  unfold Instr.buildSlice;simp only [H1,run_underlying ad,i0,sizeOf,typeInfo,run_program,pO,ai5,tE,f4 wS];by_cases bn:len*aJ.size=0
  ·rw [f7 bn,H1,ai5,i0,tF _ bc]
   rfl
  ·rw [f4 bn]
   simp only [zeroValue,typeInfo,H1,run_program,pO,Dg,ai5,i0];rw [tF _ bc];rfl
 ·refine .aF _ 0 _ _ _ vs _ _ bc (by rw [← bI.length,gm]) ?_ (bI.mono (u3 aI.wf.lt _ _)) eh ?_ (t7 _) (fun _=>rfl) (fun b aq=>by cases aq)
  ·exact Gw (w:=w) (p:=p) (flat vs) e
  ·omega
theorem LI {o:Oper} {v:ag} (h:sw Γ o env=some v):gT P o a w p v:=by
 unfold sw at h;split at h
 ·rename_i x ai;exact LD aI (.inl ai) h
 ·rename_i x ai;exact LD aI (.inr ai) h
 ·rename_i c x y ai
  split at h
  ·rename_i aw;exact LF aI (t:=true) ai aw h
  ·rename_i aw;exact LF aI (t:=false) ai aw h
  ·cases h
 ·rename_i op t x y yt ai
  split at h
  ·rename_i u ga aa ar;exact UG aP aI ai aa ar h
  ·cases h
 ·rename_i t x ai
  split at h
  ·rename_i b aq;cases h;exact UH aI ai aq
  ·cases h
 ·rename_i x i ai
  split at h
  ·rename_i vs aa;exact UI aI ai aa h
  ·cases h
 ·rename_i S x f ai
  split at h
  ·rename_i hb sz nD z cK
   split at h
   ·rename_i off t aZ
    split at h
    ·rename_i bN n eN ahP aN
     split at h
     ·rename_i b o' aa;cases h;exact GD aP aI ai cK aZ aN bc (.inl ⟨_,_,aa,rfl⟩)
     ·rename_i cs o' aa;cases h;exact GD aP aI ai cK aZ aN bc (.inr (.inl ⟨_,_,aa,rfl⟩))
     ·rename_i b cs aa;cases h;exact GD aP aI ai cK aZ aN bc (.inr (.inr ⟨_,_,aa,rfl⟩))
     ·cases h
    ·cases h
   ·cases h
  ·cases h
 ·rename_i S x f ai
  split at h
  ·rename_i hb sz nD z cK
   split at h
   ·rename_i off t aZ
    split at h
    ·rename_i i aN
     split at h
     ·rename_i cs aa;exact UJ aP aI ai cK aZ aN aa h
     ·cases h
    ·cases h
   ·cases h
  ·cases h
 ·rename_i t x ai
  split at h
  ·rename_i i aN
   split at h
   ·rename_i cs o' aa;exact LG aP aI ai aN aa h
   ·rename_i b cs aa;exact UK aP aI ai aN aa h
   ·cases h
  ·cases h
 ·rename_i t x ai
  split at h
  ·cases h
  ·rename_i i GJ aN
   split at h
   ·rename_i u aa;cases h;exact UL aP aI ai aN (fun b e=>by obtain ⟨fg,a2,a3,a4⟩:=i;simp only at e;subst e;exact GJ _ _ _ _ C) aa
   ·cases h
  ·cases h
 ·rename_i f first cap ai
  split at h
  ·rename_i Db jt U ad;cases h;exact UM aI ai U ad
  ·cases h
 ·rename_i x ai
  split at h
  ·rename_i b o' aa;cases h;exact Dc aI ai aa (.inl ⟨_,_,rfl⟩)
  ·rename_i cs o' aa;cases h;exact Dc aI ai aa (.inr (.inl ⟨_,_,rfl⟩))
  ·rename_i b cs aa;cases h;exact Dc aI ai aa (.inr (.inr (.inl ⟨_,_,rfl⟩)))
  ·rename_i f Db jt aa;cases h;exact Dc aI ai aa (.inr (.inr (.inr ⟨_,_,_,rfl⟩)))
  ·cases h
 ·rename_i x De t ok ai
  split at h
  ·cases h
  ·rename_i i GJ aN
   have Dh:∀ b,i.bN ≠ .iface b:=fun b e=>by obtain ⟨fg,a2,a3,a4⟩:=i;simp only at e;subst e;exact GJ _ _ _ _ C
   split at h
   ·rename_i bR u aa
    split at h
    ·rename_i aq;cases h;have:=ai3 aq;subst this;exact Dd aP aI ai aN Dh aa (.inl ⟨u,rfl,rfl⟩)
    ·rename_i aq;cases h;have:=ai3 aq;subst this;exact Dd aP aI ai aN Dh aa (.inl ⟨_,rfl,rfl⟩)
    ·rename_i aq
     split at h
     ·rename_i z bO;cases h
      exact Dd aP aI ai aN Dh aa (.inr ⟨rfl,.inr ⟨bR,u,(fun e=>by subst e;simp at aq),rfl⟩,z,bO,rfl⟩)
     ·cases h
    ·cases h
   ·rename_i aa
    split at h
    ·split at h
     ·rename_i z bO;cases h
      exact Dd aP aI ai aN Dh aa (.inr ⟨rfl,.inl C,z,bO,rfl⟩)
     ·cases h
    ·cases h
   ·cases h
  ·cases h
 ·rename_i args argTypes ai
  split at h
  ·rename_i x t U ad
   have bT:args = #[x]:=by apply at';simpa using U
   have bI:argTypes = #[t]:=by apply at';simpa using ad
   subst bT;subst bI;split at h
   ·rename_i e sz nD z aN
    split at h
    ·rename_i sz' xs own aa;cases h;exact LH aP aI ai aN aa (.inl ⟨_,_,_,_,rfl,rfl,rfl⟩)
    ·cases h
   ·rename_i sz nD z aN
    split at h
    ·rename_i l aa;cases h;exact LH aP aI ai aN aa (.inr ⟨_,rfl,rfl,rfl⟩)
    ·cases h
   ·cases h
  ·cases h
 ·rename_i t x ai
  split at h
  ·rename_i u aa
   split at h
   ·rename_i cs aw;cases h;exact UN aI ai aa aw
   ·cases h
  ·cases h
 ·rename_i t parts ai
  split at h
  ·rename_i hb sz nD z aN
   split at h
   ·rename_i pl aO ps h8 bO mS
    split at h
    ·rename_i cs iC;cases h;exact UO aP aI ai aN h8 bO mS iC
    ·cases h
   ·cases h
  ·rename_i Lw js sz nD z aN
   split at h
   ·rename_i aJ aO ps he bO mS
    split at h
    ·rename_i cs iC;cases h;exact UR aP aI ai aN he bO mS iC
    ·cases h
   ·cases h
  ·cases h
 ·rename_i t len parts ai
  split at h
  ·rename_i e sz nD z aN
   split at h
   ·rename_i aJ he
    split at h
    ·rename_i u5
     simp only [d6] at u5;split at h
     ·rename_i xs fi;cases h
      exact US aP aI ai aN he (ai3 u5.1) (as6 u5.2.1) (as6 u5.2.2) fi
     ·cases h
    ·cases h
   ·cases h
  ·cases h
 ·cases h
omit aI aP in
theorem LJ {o:Oper} {v:ag} (h:sw Γ o env=some v):gS o=true:=by
 unfold gS;cases ai:o.op<;>first|rfl|(unfold sw at h;rw [ai] at h;cases h)
omit aI in
theorem aX.sw {o:Oper} {v:ag} (h:Go.Proofs.YtimbpjfhekcofaaGreat.sw Γ o env=some v):aX P N o env s (fun x an=>x=v∧an=s) (fun _ _=>False):=
 aX.mR (LJ h) fun _ _ _ _ _ aI=>LI aP aI h
end
def ao.set (s:ao) (b:Nat) (o:ds):ao:=fun aW=>if aW=b then some o else s aW
def ao.del (s:ao) (b:Nat):ao:=fun aW=>if aW=b then none else s aW
theorem ao.fH (s:ao) (b:Nat) (o:ds):s.set b o b=some o:=by simp [ao.set]
theorem ao.eQ (s:ao) {b aW:Nat} (o:ds) (h:aW≠b):s.set b o aW=s aW:=by simp [ao.set,h]
theorem ao.ob (s:ao) (b:Nat):s.del b b=none:=by simp [ao.del]
theorem ao.nE (s:ao) {b aW:Nat} (h:aW≠b):s.del b aW=s aW:=by simp [ao.del,h]
theorem ao.u7 {s:ao} {b aW:Nat} {o:ds} (h:s.set b o aW=none):aW≠b∧s aW=none:=by
 unfold ao.set at h;split at h
 ·cases h
 ·exact ⟨‹_›,h⟩
theorem ao.wT (s:ao) (b:Nat) (o:ds) (h:s b=none):ao.Sub s (s.set b o):=fun aW=>by
 by_cases e:aW=b
 ·subst e;exact .inr h
 ·exact .inl (by rw [ao.eQ _ _ e])
theorem ao.pR (s:ao):ao.Sub s s:=fun _ => .inl rfl
theorem ao.Sub.trans {a b c:ao} (h:ao.Sub a b) (k:ao.Sub b c):ao.Sub a c:=fun x=>by
 rcases h x with e|e
 ·rcases k x with e'|e'
  ·exact .inl (e.trans e')
  ·exact .inr (e.trans e')
 ·exact .inr e
theorem ao.AM (s:ao) (b:Nat) (o:ds) (h:s b=none):(s.set b o).del b=s:=by
 funext aW;by_cases e:aW=b
 ·subst e;simp [ao.del,h]
 ·simp [ao.del,ao.set,e]
theorem ao.set_set (s:ao) (b:Nat) (o o':ds):(s.set b o).set b o'=s.set b o':=by
 funext aW;by_cases e:aW=b<;>simp [ao.set,e]
theorem rl.lt {w:World} {p:bV} {b:Nat} {o:ds} (h:rl w p b o):b<w.heap.size:=by
 cases o with
 | box t cs=>obtain ⟨vs,U,-⟩:=h;exact (t6.1 U).1
 | row t sz n=>obtain ⟨vs,U,-⟩:=h;exact (t6.1 U).1
 | map es=>obtain ⟨vs,c,U,-⟩:=h;exact (t6.1 U).1
 | hz es it l c=>obtain ⟨_,_,_,U,-⟩:=h;exact (t6.1 U).1
 | tick m=>obtain ⟨_,_,_,U⟩:=h;exact (t6.1 U).1
 | loop r env=>exact (t6.1 h.1).1
theorem sx {w:World} {p:bV} {s:ao} (ca:dn w p s) (o:Obj) (x:ds) (aa:∀ w':World,w'.heap[w.heap.size]? = some o→(∀ v y,Rel w p v y→Rel w' p v y)→(∀ vs ys,b4 w p vs ys→b4 w' p vs ys)→rl w' p w.heap.size x) :
  s w.heap.size=none∧c2 w p (w.alloc o) p∧Kept s (s.set w.heap.size x) w p (w.alloc o) p∧dn (w.alloc o) p (s.set w.heap.size x):=by
 have av:s w.heap.size=none:=by
  cases h:s w.heap.size with
  | none=>rfl
  | some o'=>exact absurd (ca.obj _ _ h).lt ak
 have hle:c2 w p (w.alloc o) p:=c2.of_heap C C C bc (fun _ _ h=>h) ca.lt (fun b aq=>l9 w o b aq);refine ⟨av,hle,⟨fun b aq _=>l9 w o b aq,fun b aq al=>by rw [ao.eQ _ _ ak];exact al,fun _ _ _ _ h=>h⟩,?_⟩;have ay:=ca.grow hle (fun b aq=>l9 w o b aq) (fun _ _ _ h=>h) (fun b o aB=>by have:=ca.lt b o aB;simp;omega);refine ⟨fun b o' aq=>?_,ay.lt⟩;by_cases e:b=w.heap.size
 ·subst e
  rw [ao.fH] at aq;cases aq;exact aa _ (ss w o) (fun _ _ h=>h.mono hle) (fun _ _ h=>h.mono hle)
 ·rw [ao.eQ _ _ e] at aq
  exact ay.obj b o' aq
section
variable {P:Program} {Γ:cz} {N:Nat} {env:Env} {s:ao}
theorem aX.jZ {o:Oper} {K X:ag→ao→Prop} (aA:gS o=true)
  (h:∀ ro B a w p,dx N B ro env s a w p→∃ val w' an bg x,(execOp a.eval o).run P w = .ok (.value val) w'∧c2 w p w' bg∧Kept s an w p w' bg∧dn w' bg an∧K x an∧Rel w' bg val x) :
  aX P N o env s K X:=by
 refine ⟨aA,fun ro B a w p aI=>?_⟩;obtain ⟨val,w',an,bg,x,aC,U,ad,aj,bk,bF⟩:=h ro B a w p aI;rw [aC];exact ⟨an,bg,U,ad,aj,x,bk,bF⟩
theorem aX.GK {o:Oper} {K X:ag→ao→Prop} (aA:gS o=true)
  (h:∀ ro B a w p,dx N B ro env s a w p→∃ w' an bg,(execOp a.eval o).run P w = .ok .skip w'∧c2 w p w' bg∧Kept s an w p w' bg∧dn w' bg an∧K (.bW []) an) :
  aX P N o env s K X:=by
 refine ⟨aA,fun ro B a w p aI=>?_⟩;obtain ⟨w',an,bg,aC,U,ad,aj,bk⟩:=h ro B a w p aI;rw [aC];exact ⟨an,bg,U,ad,aj,_,bk,Gv⟩
theorem aX.alloc (aP:bX P Γ) {o:Oper} {t:TypeId} {i:bQ} {z:ag} {cs:List ag} (ai:o.op = .alloc t) (aN:Γ.get? t=some i) (bO:ij i.zero=some z) (aw:cellsOf z=some cs) {X:ag→ao→Prop} :
  aX P N o env s (fun x an=>∃ b,s b=none∧x = .ptr b 0∧an=s.set b (.box t cs)) X:=by
 refine aX.jZ (by simp [gS,ai]) fun ro B a w p aI=>?_
 obtain ⟨info,d,U,ad,aj,bk,bF,fx⟩:=aP.parts aN
 obtain ⟨av,hle,ax,ca⟩:=sx aI.wf (.cells i.zero.cells t (0,0)) (.box t cs) (fun w' jc aC hc=>
  ⟨i.zero.cells,jc,hc _ _ (su (rn bO) aw),fun o' aB=>absurd (aI.wf.lt _ _ aB) ak⟩)
 refine ⟨.pointer (some ⟨w.heap.size,0,none⟩),_,_,p,_,?_,hle,ax,ca,⟨w.heap.size,av,rfl,rfl⟩,.ptr _ _⟩;unfold execOp;rw [ai];refine gb ?_;simp [Instr.alloc,zeroValue,typeInfo,U,fx,newVar,newRow]
theorem jN {w:World} {b:Nat} {vs:Array Value} {t:TypeId} {hn:Nat×Nat} (h:w.heap[b]? = some (.cells vs t hn)) (j:Nat):w.cell? ⟨b,j,none⟩=vs[j]?:=by
 simp [World.cell?,h]
theorem aX.u9 (aP:bX P Γ) {o:Oper} {t T:TypeId} {x:Operand} {i:bQ} {b off:Nat} {cs:List ag} {v:ag} (ai:o.op = .load t x) (aN:Γ.get? t=some i) (aa:aL env x=some (.ptr b off))
  (al:s b=some (.box T cs)) (h:hB i cs off=some v) {X:ag→ao→Prop}:aX P N o env s (fun x an=>x=v∧an=s) X:=by
 refine aX.jZ (by simp [gS,ai]) fun ro B a w p aI=>?_
 have aC:=aI.aL aa;generalize aD:a.eval x=dy at aC;cases aC;obtain ⟨vs,U,ad,aj⟩:=aI.wf.obj _ _ al;obtain ⟨val,cI,eG⟩:=AH aP aN (b:=b) (base:=0) (vs:=vs.toList) (fun j u hu=>by rw [aj8,jN U];simpa using hu) ad h;refine ⟨val,w,s,p,v,?_,.refl w p,.refl s w p,aI.wf,⟨rfl,rfl⟩,eG⟩;unfold execOp;rw [ai];simp only [aD];refine gb ?_;rw [aj8] at cI;simp only [Instr.loadAt,Instr.sureAddr,H1,ai5,i0,cI]
theorem u' {w:World} {p:bV} (ca:dn w p s) {b:Nat} {T:TypeId} {cs:List ag} (al:s b=some (.box T cs)) {vs':Array Value} {cs':List ag}
    (b6:∀ vs,w.heap[b]? = some (.cells vs T (0,0))→vs'.size=vs.size) (aC:b4 w p vs'.toList cs') (w':World) (jc:w'=w.setRow b vs') :
    c2 w p w' p∧Kept s (s.set b (.box T cs')) w p w' p∧dn w' p (s.set b (.box T cs')):=by
  subst jc;obtain ⟨vs,U,ad,aj⟩:=ca.obj _ _ al;have au:b<w.heap.size:=(t6.1 U).1;have dH:=setRow_heap w b vs vs' T (0,0) U;have gM:∀ k,k≠b→(w.setRow b vs').heap[k]? = w.heap[k]? := fun k ax=>setRow_other w b k vs' ax
  have hle:c2 w p (w.setRow b vs') p:=by
    refine ⟨rfl,rfl,rfl,by simp,fun _ _ h=>h,fun aW o aB=>wJ (gM aW (fun e=>aj o (e ▸ aB))),fun aW x aa=>?_⟩;by_cases e:aW=b
    · subst e
      have UT:=b6 vs U;simp only [World.kM,U,dH] at aa ⊢;rw [UT];exact aa
    · rw [wI (gM aW e)];exact aa
  refine ⟨hle,⟨fun aW aq av=>gM aW (fun e=>by rw [e,al] at av;simp at av),fun aW aq av=>by
    rw [ao.eQ]
    · exact av
    · intro e;rw [e,al] at av;simp at av,fun _ _ _ _ h=>h⟩,?_,fun aW o aB=>by simpa using ca.lt aW o aB⟩
  intro aW o' oP;by_cases e:aW=b
  · subst e
    rw [ao.fH] at oP;cases oP;exact ⟨vs',dH,aC.mono hle,aj⟩
  · rw [ao.eQ _ _ e] at oP
    have ai:=ca.obj aW o' oP;have c4:=gM aW e;cases o' with
    | box t c=>obtain ⟨us,g1,g2,g3⟩:=ai;exact ⟨us,c4.trans g1,g2.mono hle,g3⟩
    | row t sz n=>obtain ⟨cur,g1,g2,g3,g4⟩:=ai;exact ⟨cur,c4.trans g1,g2,g3,g4⟩
    | map es=>obtain ⟨cr,c,g1,g2,g3⟩:=ai;exact ⟨cr,c,c4.trans g1,⟨g2.1.mono hle,g2.2.mono hle⟩,g3⟩
    | hz es it l c=>exact ai.qt hle c4 (gM it (ai.AB U bc))
    | tick m=>obtain ⟨fg,a2,a3,g1⟩:=ai;exact ⟨fg,a2,a3,c4.trans g1⟩
    | loop r env=>exact ⟨c4.trans ai.1,fun t v h=>(ai.2 t v h).mono hle⟩
def eZ:ag→Bool
 | .ho (.func _ _ _)=>true
 | .ho (.slice _ _ _)=>true
 | .any | .ho _ | .agg _ | .bW _=>false
 | _=>true
theorem GL {w:World} {p:bV} {v:Value} {x:ag} (aC:Rel w p v x) (h:eZ x=true):v.oneCell'=true:=by
 cases aC with
 | ho v=>cases v<;>first|rfl|(simp [eZ] at h;done)
 | _=>first|rfl|(simp [eZ] at h;done)
theorem oQ {w:World} {p:bV}:∀ {vs:List Value} {xs:List ag},b4 w p vs xs→xs.all eZ=true→∀ v∈vs,v.oneCell'=true:=by
 intro vs
 induction vs with
 | nil=>intro xs _ _ v aD;cases aD
 | cons u vs a8=>
  intro xs h bp v aD;cases h with
  | cons _ x _ xs aa aN=>
  simp only [List.all_cons,d6] at bp;rcases ai1.1 aD with rfl|aD
  ·exact GL aa bp.1
  ·exact a8 aN bp.2 v aD
theorem LK (off:Nat):∀ (cs xs:List ag),off+cs.length≤xs.length→c5 off cs xs=xs.take off++cs++xs.drop (off+cs.length):=by
 intro cs
 induction cs generalizing off with
 | nil=>intro xs h;simp [c5]
 | cons c cs a8=>
  intro xs h;simp only [c5,i9] at h ⊢;rw [a8 (off+1) _ ez];have U:(xs.set off c).take (off+1)=xs.take off++[c]:=by
   rw [List.take_succ_eq_append_getElem ez];simp [List.take_set_of_le]
  have ad:(xs.set off c).drop (off+1+cs.length)=xs.drop (off+1+cs.length):=by
   rw [List.drop_set_of_lt ak]
  rw [U,ad];simp [at1,as9 1]
theorem aX.Di (aP:bX P Γ) {o:Oper} {t T:TypeId} {x y:Operand} {i:bQ} {b off:Nat} {cs us:List ag} {v:ag} (ai:o.op = .store t x y) (aN:Γ.get? t=some i) (aa:aL env x=some (.ptr b off))
  (ar:aL env y=some v) (aD:cellsOf v=some us) (hu:aj4 us.length i.size=true) (UU:us.all eZ=true) (al:s b=some (.box T cs)) (er:ar4 (off+us.length) cs.length=true) {X:ag→ao→Prop} :
  aX P N o env s (fun _ an=>an=s.set b (.box T (c5 off us cs))) X:=by
 refine aX.GK (by simp [gS,ai]) fun ro B a w p aI=>?_
 have aC:=aI.aL aa;generalize dM:a.eval x=dy at aC;cases aC;have eH:=aI.aL ar;have pP:=su eH aD;obtain ⟨info,d,g1,g2,g3,g4,-⟩:=aP.parts aN;obtain ⟨vs,U,ad,aj⟩:=aI.wf.obj _ _ al;have b6:(a.eval y).cells.size=info.size:=by rw [g4,← ai3 hu,← pP.length,ai8]
 have UW:=as6 er;have oc:vs.size=cs.length:=by rw [← ad.length,ai8]
 have cV:(a.eval y).cells.toList.length=us.length:=pP.length;have iM:=run_storeCells_at P b off T (a.eval y).cells.toList 0 vs w U (by rw [cV];omega) (oQ pP UU);simp only [as8] at iM;have eG:b4 w p (vs.toList.take off++(a.eval y).cells.toList++vs.toList.drop (off+(a.eval y).cells.toList.length)) (c5 off us cs):=by
  rw [LK _ _ _ UW,cV];exact ((ad.take off).append pP).append (ad.drop _)
 obtain ⟨ck,cL,ev⟩:=u' aI.wf al (vs':=(vs.toList.take off++(a.eval y).cells.toList++vs.toList.drop (off+(a.eval y).cells.toList.length)).toArray) (fun wU Dj=>by
  rw [U] at Dj;cases Dj
  simp only [ap2,f0,ah',an0,cV,ai8];omega) (by simpa using eG) _ C
 refine ⟨_,_,p,?_,ck,cL,ev,rfl⟩;unfold execOp;rw [ai];simp only [dM];simp only [Instr.storeAt,Instr.sureAddr,storeVar,sizeOf,typeInfo,H1,ai5,i0,run_program,g1,b6,ne_eq,not_true_eq_false,al0];rw [iM];rfl
theorem dx.freeze {B:fP} {ro:Option Nat} {a:Act} {w:World} {p:bV} (h:dx N B ro env s a w p) {t b:Nat} {T:TypeId} {cs:List ag} (aN:env.get? t=some (.ptr b 0)) (al:s b=some (.box T cs)) :
  ∃ bg,dx N B ro ((t,.bl cs 0)::env) (s.del b) a w bg∧c2 w p w bg∧Kept s (s.del b) w p w bg:=by
 obtain ⟨vs,U,ad,aj⟩:=h.wf.obj _ _ al;have au:b<w.heap.size:=(t6.1 U).1;have hle:c2 w p w (p.dT b True):=⟨rfl,rfl,rfl,t7 _,fun _ _ h => .inl h,fun _ _ _=>rfl,fun _ _ h=>h⟩
 have ax:Kept s (s.del b) w p w (p.dT b True):=⟨fun _ _ _=>rfl,fun aW aq av=>by
  by_cases e:aW=b
  ·subst e;exact ao.ob _ _
  ·rw [ao.nE _ e];exact av,fun aW o aq av aB=>by
   rcases aB with aB|⟨rfl,_⟩
   ·exact aB
   ·rw [al] at av;cases av⟩
 have ca:dn w (p.dT b True) (s.del b):=by
  refine ⟨fun aW o aq=>?_,fun aW o aB=>by rcases aB with aB|⟨rfl,_⟩;exact h.wf.lt _ _ aB;exact au⟩;by_cases e:aW=b
  ·subst e;rw [ao.ob] at aq;cases aq
  ·rw [ao.nE _ e] at aq
   have ai:=h.wf.obj aW o aq;have fo:∀ o,p.dT b True aW o↔p aW o:=fun o=>⟨fun aB=>by rcases aB with aB|⟨e',_⟩;exact aB;exact absurd e' e,.inl⟩
   cases o with
   | box t c=>obtain ⟨us,g1,g2,g3⟩:=ai;exact ⟨us,g1,g2.mono hle,fun o aB=>g3 o ((fo o).1 aB)⟩
   | row t sz n=>obtain ⟨cur,g1,g2,g3,g4⟩:=ai;exact ⟨cur,g1,g2,g3,fun o=>(fo o).trans (g4 o)⟩
   | map es=>obtain ⟨cr,c,g1,g2,g3⟩:=ai;exact ⟨cr,c,g1,⟨g2.1.mono hle,g2.2.mono hle⟩,g3⟩
   | hz es it l c=>exact ai.qt hle C C
   | tick m=>exact ai
   | loop r env=>exact ⟨ai.1,fun t v h=>(ai.2 t v h).mono hle⟩
 have aI:=h.step hle ax ca;refine ⟨_,⟨aI.size,fun bR v aD=>?_,aI.wf,aI.defs,aI.round,aI.base⟩,hle,ax⟩;simp only [Env.get?] at aD;split at aD
 ·rename_i he
  have:=ai3 he;subst this;cases aD;have aC:=h.env t _ aN;generalize a.tmps.getD t undef=dy at aC;cases aC;refine .bl b 0 0 0 vs.toList cs C ?_ (ad.mono hle);intro i v aQ;refine ⟨.inr ⟨rfl,trivial⟩,?_⟩;rw [aj8,jN U];simpa using aQ
 ·exact aI.env bR v aD
theorem jb.freeze {ops:Array Oper} {Q:b8→Env→ao→Prop} {l:List Nat} (t b:Nat) {T:TypeId} {cs:List ag} (aN:env.get? t=some (.ptr b 0)) (al:s b=some (.box T cs))
  (h:jb P N ops l Q ((t,.bl cs 0)::env) (s.del b)):jb P N ops l Q env s:=by
 intro ro B a w p aI;obtain ⟨bg,iM,hle,ax⟩:=aI.freeze aN al;exact jb.after hle ax h iM
theorem af.freeze {Q:b8→Env→ao→Prop} {c:Code} (t b:Nat) {T:TypeId} {cs:List ag} (aN:env.get? t=some (.ptr b 0)) (al:s b=some (.box T cs))
  (h:af P N c Q ((t,.bl cs 0)::env) (s.del b)):af P N c Q env s:=by
 intro hn B a w p eL aI;obtain ⟨bg,iM,hle,ax⟩:=aI.freeze aN al;exact mN (h hn B a w bg eL iM) fun _ _ _ q=>q.after hle ax
end
def lI:ag→ag→Option Bool
 | .str a,.str b=>some (a==b)
 | .int k a,.int k' b=>if k=k' then some (a==b) else none
 | .bool a,.bool b=>some (a==b)
 | _,_=>none
def me:tC→ag→Bool
 | .str,.str _=>true
 | .int _,.int _ _=>true
 | .bool,.bool _=>true
 | _,_=>false
def kc:List (ag×ag)→ag→Option (Option ag)
  | [],_=>some none
  | (k',v)::r,k=>match lI k k' with
    | some true=>some (some v)
    | some false=>kc r k
    | none=>none
def od:List (ag×ag)→ag→ag→Option (List (ag×ag))
  | [],k,v=>some [(k,v)]
  | (k',ga)::r,k,v=>match lI k k' with
    | some true=>some ((k,v)::r)
    | some false=>match od r k v with
      | some r'=>some ((k',ga)::r')
      | none=>none
    | none=>none
theorem LL (a b:ByteArray):(a==b)=(a.data.toList==b.data.toList):=by
 cases a with|mk x=>cases b with|mk y=>
 show (ByteArray.beq ⟨x⟩ ⟨y⟩)=_;unfold ByteArray.beq;simp
theorem Dk {w:World} {p:bV} {d:TypeDesc} {hW AN:Value} {k k':ag} {b:Bool} (U:Rel w p hW k) (ad:Rel w p AN k') (aZ:me (ec d) k=true) (h:lI k k'=some b) :
  Instr.sameNow d hW AN=some b:=by
 unfold lI at h;split at h
 ·cases U with|str a _ e=>cases ad with|str dm _ e'=>
  cases d<;>simp [ec,me] at aZ
  cases h;simp [Instr.sameNow,LL,e,e']
 ·cases U;cases ad
  cases d<;>simp [ec,me] at aZ
  split at h
  ·cases h;rename_i ax;subst ax;simp [Instr.sameNow]
  ·cases h
 ·cases U;cases ad
  cases d<;>simp [ec,me] at aZ
  cases h;simp [Instr.sameNow]
 ·cases h
theorem UX {w:World} {p:bV} {hW AN:Value} {k k':ag} (U:Rel w p hW k) (ad:Rel w p AN k') (h:lI k k'=some true):Instr.sameBits 10000 AN hW=true:=by
 unfold lI at h;split at h
 ·cases U with|str a _ e=>cases ad with|str dm _ e'=>
  have h:=beq_iff_eq.1 (ap7.inj h);show (dm==a)=true;rw [LL,e,e',h];simp
 ·rename_i k a k' b
  cases U;cases ad;split at h
  ·rename_i ax
   subst ax;have h:=beq_iff_eq.1 (ap7.inj h);show (k==k&&b==a)=true;rw [h];simp
  ·cases h
 ·rename_i a b
  cases U;cases ad;have h:=beq_iff_eq.1 (ap7.inj h);show (b==a)=true;rw [h];simp
 ·cases h
theorem UY {w:World} {p:bV} {d:TypeDesc} {hW:Value} {k:ag} (ax:Rel w p hW k) (aZ:me (ec d) k=true):∀ (cr:List MapEntry) (es:List (ag×ag)) (i:Nat) (r:Option ag),
  l6 w p cr es→kc es k=some r →
  match r with
  | none=>Instr.findNow d hW cr i=some none
  | some v=>∃ j val,Instr.findNow d hW cr i=some (some (j,val))∧Rel w p val v:=by
 intro cr
 induction cr with
 | nil=>
  intro es i r aC h;cases es with
  | nil=>cases h;rfl
  | cons e es=>exact absurd aC.1.length bc
 | cons m cr a8=>
  intro es i r aC h;cases es with
  | nil=>exact absurd aC.1.length bc
  | cons e es=>
   obtain ⟨k',ga⟩:=e;obtain ⟨yP,qu⟩:=aC;cases yP with|cons _ _ _ _ fa oR=>cases qu with|cons _ _ _ _ qv lg=>
   simp only [kc] at h;split at h
   ·rename_i he
    cases h;exact ⟨i,m.val,by simp only [Instr.findNow,Dk ax fa aZ he],qv⟩
   ·rename_i he
    have:=a8 es (i+1) r ⟨oR,lg⟩ h;have al:=Dk ax fa aZ he;cases r with
    | none=>simp only [Instr.findNow,al];exact this
    | some v=>obtain ⟨j,val,U,ad⟩:=this;exact ⟨j,val,by simp only [Instr.findNow,al];exact U,ad⟩
   ·cases h
theorem UZ {w:World} {p:bV} {d:TypeDesc} {hW vv:Value} {k v:ag} (ax:Rel w p hW k) (aD:Rel w p vv v) (aZ:me (ec d) k=true):∀ (cr:List MapEntry) (es dE:List (ag×ag)) (i:Nat),
  l6 w p cr es→od es k v=some dE →
  (Instr.findNow d hW cr i=some none∧∀ n,l6 w p (cr++[{ key:=hW,val:=vv,born:=n }]) dE) ∨
  (∃ j val e,Instr.findNow d hW cr i=some (some (i+j,val))∧cr[j]? = some e∧Instr.sameBits 10000 e.key hW=true∧l6 w p (cr.modify j fun e=>{ e with key:=hW,val:=vv }) dE):=by
 intro cr
 induction cr with
 | nil=>
  intro es dE i aC h;cases es with
  | nil=>cases h;exact .inl ⟨rfl,fun n=>⟨.cons _ _ _ _ ax .nil,.cons _ _ _ _ aD .nil⟩⟩
  | cons e es=>exact absurd aC.1.length bc
 | cons m cr a8=>
  intro es dE i aC h;cases es with
  | nil=>exact absurd aC.1.length bc
  | cons e es=>
   obtain ⟨k',ga⟩:=e;obtain ⟨yP,qu⟩:=aC;cases yP with|cons _ _ _ _ fa oR=>cases qu with|cons _ _ _ _ qv lg=>
   simp only [od] at h;split at h
   ·rename_i he
    cases h;refine .inr ⟨0,m.val,m,by simp only [Instr.findNow,Dk ax fa aZ he,as8],rfl,UX ax fa he,?_⟩;exact ⟨.cons _ _ _ _ ax oR,.cons _ _ _ _ aD lg⟩
   ·rename_i he
    split at h
    ·rename_i r' kN
     cases h;have al:=Dk ax fa aZ he;rcases a8 es r' (i+1) ⟨oR,lg⟩ kN with ⟨U,ad⟩|⟨j,val,e',U,ad,aj,bk⟩
     ·exact .inl ⟨by simp only [Instr.findNow,al];exact U,fun n=>⟨.cons _ _ _ _ fa (ad n).1,.cons _ _ _ _ qv (ad n).2⟩⟩
     ·refine .inr ⟨j+1,val,e',by simp only [Instr.findNow,al];rw [U];congr 3;omega,by simpa using ad,aj,?_⟩
      simp only [List.modify_succ_cons];exact ⟨.cons _ _ _ _ fa bk.1,.cons _ _ _ _ qv bk.2⟩
    ·cases h
   ·cases h
section
variable {P:Program} {Γ:cz} {N:Nat} {env:Env} {s:ao}
theorem run_checkKey {d:TypeDesc} {t:TypeId} {hW:Value} {k:ag} {w:World} {p:bV} (hu:P.underlying t=some d) (ax:Rel w p hW k) (aZ:me (ec d) k=true) (e:Bool) :
  (Instr.checkKey e 10000 t hW).run P w = .ok () w:=by
 have:∀ n,(Instr.checkKey e (n+1) t hW).run P w = .ok () w:=by
  intro n;unfold Instr.checkKey;simp only [H1,run_underlying hu,i0];cases ax<;>simp [me] at aZ<;>cases d<;>simp [ec] at aZ<;>rfl
 exact this 9999
theorem run_findKey {d:TypeDesc} {t:TypeId} {hW:Value} {es:List MapEntry} {r:Option (Nat×Value)} {w:World} (hu:P.underlying t=some d) (h:Instr.findNow d hW es 0=some r) :
  (Instr.findKey t hW es).run P w = .ok r w:=by
 unfold Instr.findKey;simp only [H1,run_underlying hu,i0,h,ai5]
def Dl:Obj→Bool
 | .cells .. => false
 | _=>true
theorem qw {w:World} {r:Nat} {o:Obj} (h:w.heap[r]? = some o) (aw:Dl o=true):(getObj r).run P w = .ok o w:=by
 cases o<;>first|(simp [Dl] at aw;done)|simp [getObj,ay0,h]
def oS (ok:Bool) (zero:ag):Option ag→ag
 | some v=>if ok then .bW [v,.bool true] else v
 | none=>if ok then .bW [zero,.bool false] else zero
theorem aX.lookup (aP:bX P Γ) {o:Oper} {t ei fy:TypeId} {x y:Operand} {ok:Bool} {it ju aJ:bQ} {m:ag} {es:List (ag×ag)} {k z:ag} {r:Option ag} (ai:o.op = .lookup t x y ok)
  (aN:Γ.get? t=some it) (bw:it.bN = .map ei fy) (mT:Γ.get? ei=some ju) (bP:Γ.get? fy=some aJ) (aa:aL env x=some m) (ar:aL env y=some k)
  (hm:(∃ b,m = .map b∧s b=some (.map es))∨(m = .sr∧es=[])) (aZ:me ju.bN k=true) (ay:kc es k=some r) (bO:ij aJ.zero=some z) {X:ag→ao→Prop} :
  aX P N o env s (fun x an=>x=oS ok z r∧an=s) X:=by
 refine aX.jZ (by simp [gS,ai]) fun ro B a w p aI=>?_
 obtain ⟨info,d,U,ad,aj,-⟩:=aP.parts aN;obtain ⟨U0,yQ,ma,iB,tH,-⟩:=aP.parts mT;obtain ⟨jv,j0,AO,GM,U1,-,-,GN⟩:=aP.parts bP;have aA:d = .map ei fy:=by rw [bw] at aj;cases d<;>simp [ec] at aj;rw [aj.1,aj.2]
 subst aA;have aC:=aI.aL aa;have kO:=aI.aL ar;generalize dM:a.eval x=dy at aC;generalize fj:a.eval y=fX at kO;rw [← tH] at aZ;have GO:(zeroValue fy).run P w = .ok aJ.zero w:=by simp [zeroValue,typeInfo,AO,GN]
 have tail:∀ cr:Array MapEntry,l6 w p cr.toList es→∃ val,(do
   Instr.checkKey cr.isEmpty 10000 ei fX
   let (v,U2) ← match ← Instr.findKey ei fX cr.toList with
    | some (_,v)=>pure (v,true)
    | none=>do pure (← zeroValue fy,false)
   pure (if ok then .tuple #[v,.bool U2] else v):Sem Value).run P w = .ok val w∧Rel w p val (oS ok z r):=by
  intro cr U3;have rq:=UY kO aZ cr.toList es 0 r U3 ay;simp only [H1,run_checkKey iB kO aZ,i0];cases r with
  | none=>
   simp only at rq;simp only [run_findKey iB rq,i0,H1,GO,ai5,oS];cases ok
   ·exact ⟨_,rfl,rn bO⟩
   ·exact ⟨_,rfl,.bW _ _ (.cons _ _ _ _ (rn bO) (.cons _ _ _ _ (.bool _) .nil))⟩
  | some v=>
   obtain ⟨j,val,g1,g2⟩:=rq;simp only [run_findKey iB g1,i0,ai5,oS];cases ok
   ·exact ⟨_,rfl,g2⟩
   ·exact ⟨_,rfl,.bW _ _ (.cons _ _ _ _ g2 (.cons _ _ _ _ (.bool _) .nil))⟩
 have GP:∃ val,(Instr.lookup t dy fX ok).run P w = .ok val w∧Rel w p val (oS ok z r):=by
  unfold Instr.lookup;rcases hm with ⟨b,rfl,al⟩|⟨rfl,rfl⟩
  ·cases aC
   obtain ⟨cr,clock,g1,g2,-⟩:=aI.wf.obj _ _ al;obtain ⟨val,cI,eG⟩:=tail cr g2;refine ⟨val,?_,eG⟩;simp only [H1,run_underlying ad,i0,qw g1 C,ai5] at cI ⊢;exact cI
  ·cases aC
   obtain ⟨val,cI,eG⟩:=tail #[] ⟨.nil,.nil⟩;refine ⟨val,?_,eG⟩;simp only [H1,run_underlying ad,i0,ai5] at cI ⊢;exact cI
 obtain ⟨val,cI,eG⟩:=GP;refine ⟨val,w,s,p,_,?_,.refl w p,.refl s w p,aI.wf,⟨rfl,rfl⟩,eG⟩;unfold execOp;rw [ai];simp only [dM,fj];exact gb cI
theorem GQ {w:World} {p:bV} (ca:dn w p s) {b:Nat} {es:List (ag×ag)} (al:s b=some (.map es)) {mes':Array MapEntry} {clock':Nat} {dE:List (ag×ag)}
    (aC:l6 w p mes'.toList dE) (aq:∀ e∈mes'.toList,e.born<clock') (eK:(mes'.toList.map (·.born)).Nodup)
    (w':World) (jc:w'={ w with heap:=w.heap.setIfInBounds b (.map mes' clock') }) :
    c2 w p w' p∧Kept s (s.set b (.map dE)) w p w' p∧dn w' p (s.set b (.map dE)):=by
  subst jc;obtain ⟨cr,clock,U,ad,aj,bk⟩:=ca.obj _ _ al;have au:b<w.heap.size:=(t6.1 U).1;have dH:(w.heap.setIfInBounds b (.map mes' clock'))[b]? = some (.map mes' clock'):=by simp [aj9,au]
  have gM:∀ k,k≠b→(w.heap.setIfInBounds b (.map mes' clock'))[k]? = w.heap[k]? := fun k ax=>by
    rw [aj9,f4 (fun e=>ax e.symm)]
  have hle:c2 w p { w with heap:=w.heap.setIfInBounds b (.map mes' clock') } p:=by
    refine ⟨rfl,rfl,rfl,by simp,fun _ _ h=>h,fun aW o aB=>?_,fun aW x aa=>?_⟩
    · by_cases e:aW=b
      · subst e;simp only [World.cell?,U,dH]
      · exact wJ (gM aW e)
    · by_cases e:aW=b
      · subst e;simp [World.kM,U] at aa
      · rw [wI (gM aW e)];exact aa
  refine ⟨hle,⟨fun aW aq av=>gM aW (fun e=>by rw [e,al] at av;simp at av),fun aW aq av=>by
    rw [ao.eQ]
    · exact av
    · intro e;rw [e,al] at av;simp at av,fun _ _ _ _ h=>h⟩,?_,fun aW o aB=>by simpa using ca.lt aW o aB⟩
  intro aW o' oP;by_cases e:aW=b
  · subst e
    rw [ao.fH] at oP;cases oP;exact ⟨mes',clock',dH,⟨aC.1.mono hle,aC.2.mono hle⟩,aq,eK⟩
  · rw [ao.eQ _ _ e] at oP
    have ai:=ca.obj aW o' oP;have c4:=gM aW e;cases o' with
    | box t c=>obtain ⟨us,g1,g2,g3⟩:=ai;exact ⟨us,c4.trans g1,g2.mono hle,g3⟩
    | row t sz n=>obtain ⟨cur,g1,g2,g3,g4⟩:=ai;exact ⟨cur,c4.trans g1,g2,g3,g4⟩
    | map es=>obtain ⟨cr,c,g1,g2,g3⟩:=ai;exact ⟨cr,c,c4.trans g1,⟨g2.1.mono hle,g2.2.mono hle⟩,g3⟩
    | hz es it l c=>exact ai.qt hle c4 (gM it (ai.AB U bc))
    | tick m=>obtain ⟨fg,a2,a3,g1⟩:=ai;exact ⟨fg,a2,a3,c4.trans g1⟩
    | loop r env=>exact ⟨c4.trans ai.1,fun t v h=>(ai.2 t v h).mono hle⟩
theorem U4 {t ei fy:TypeId} {yQ:TypeDesc} {b:Nat} {cr:Array MapEntry} {clock:Nat} {hW vv:Value} {k:ag} {w:World} {p:bV}
  (ad:P.underlying t=some (.map ei fy)) (iB:P.underlying ei=some yQ) (kO:Rel w p hW k) (aZ:me (ec yQ) k=true) (g1:w.heap[b]? = some (.map cr clock)) :
  (∀ (h:Instr.findNow yQ hW cr.toList 0=some none),(Instr.mapUpdate t (.map (some b)) hW vv).run P w = .ok () { w with heap:=w.heap.setIfInBounds b (.map (cr.push { key:=hW,val:=vv,born:=clock }) (clock+1)) }) ∧
  (∀ j val e,Instr.findNow yQ hW cr.toList 0=some (some (j,val))→cr[j]? = some e→Instr.sameBits 10000 e.key hW=true →
   (Instr.mapUpdate t (.map (some b)) hW vv).run P w = .ok () { w with heap:=w.heap.setIfInBounds b (.map (cr.modify j fun e=>{ e with key:=hW,val:=vv }) clock) }):=by
 constructor
 ·intro h
  unfold Instr.mapUpdate;simp only [H1,run_underlying ad,i0,qw g1 C,run_checkKey iB kO aZ,run_findKey iB h];simp [setObj,ay0,g1]
 ·intro j val e h he aq
  unfold Instr.mapUpdate;simp only [H1,run_underlying ad,i0,qw g1 C,run_checkKey iB kO aZ,run_findKey iB h];simp [Instr.keyThatStays,he,aq,setObj,ay0,g1]
theorem aX.mapUpdate (aP:bX P Γ) {o:Oper} {t ei fy:TypeId} {x y z:Operand} {it ju:bQ} {b:Nat} {es dE:List (ag×ag)} {k v:ag} (ai:o.op = .mapUpdate t x y z∨o.op = .insert t x y z)
    (aN:Γ.get? t=some it) (bw:it.bN = .map ei fy) (mT:Γ.get? ei=some ju) (aa:aL env x=some (.map b)) (ar:aL env y=some k) (bO:aL env z=some v)
    (al:s b=some (.map es)) (aZ:me ju.bN k=true) (aB:od es k v=some dE) {X:ag→ao→Prop} :
    aX P N o env s (fun _ an=>an=s.set b (.map dE)) X:=by
  refine aX.GK (by rcases ai with ai|ai<;>simp [gS,ai]) fun ro B a w p aI=>?_
  obtain ⟨info,d,U,ad,aj,-⟩:=aP.parts aN;obtain ⟨U0,yQ,ma,iB,tH,-⟩:=aP.parts mT;have aA:d = .map ei fy:=by rw [bw] at aj;cases d<;>simp [ec] at aj;rw [aj.1,aj.2]
  subst aA;rw [← tH] at aZ;have aC:=aI.aL aa;have kO:=aI.aL ar;have GR:=aI.aL bO;obtain ⟨cr,clock,g1,g2,g3,g4⟩:=aI.wf.obj _ _ al;generalize dM:a.eval x=dy at aC;cases aC;obtain ⟨eD,fh⟩:=U4 (vv:=a.eval z) ad iB kO aZ g1;have cI:∀ w',(Instr.mapUpdate t (.map (some b)) (a.eval y) (a.eval z)).run P w = .ok () w'→(execOp a.eval o).run P w = .ok .skip w':=by
    intro w' hw;unfold execOp;rcases ai with ai|ai<;>rw [ai]<;>simp only [dM]<;>simp only [H1,hw,i0,ai5]
  rcases UZ kO GR aZ cr.toList es dE 0 g2 aB with ⟨dF,c8⟩|⟨j,val,e,dF,c8,du,lh⟩
  · obtain ⟨ck,cL,ev⟩:=GQ aI.wf al (mes':=cr.push { key:=a.eval y,val:=a.eval z,born:=clock }) (clock':=clock+1) (by simpa using c8 clock)
      (by intro e he;simp only [aw2,ab',i7] at he;rcases he with he|rfl;have:=g3 e he;omega;simp)
      (by
        simp only [aw2,List.map_append,ai2,aj5]
        rw [List.nodup_append]
        refine ⟨g4,by simp,?_⟩
        intro x aa y ar e
        simp only [i7] at ar
        obtain ⟨m,hm,rfl⟩:=ae'.1 aa
        have:=g3 m hm
        omega) _ C
    exact ⟨_,_,p,cI _ (eD dF),ck,cL,ev,rfl⟩
  · rw [aj8] at dF
    have Dm:((cr.modify j fun e=>{ e with key:=a.eval y,val:=a.eval z }).toList.map (·.born))=cr.toList.map (·.born):=by
      rw [Array.toList_modify];apply List.ext_getElem?;intro n;simp only [aj6,List.getElem?_modify];split
      · cases cr.toList[n]? <;> rfl
      · cases cr.toList[n]? <;> rfl
    obtain ⟨ck,cL,ev⟩:=GQ aI.wf al (mes':=cr.modify j fun e=>{ e with key:=a.eval y,val:=a.eval z }) (clock':=clock) (by simpa using lh)
      (by
        intro e he
        have:e.born∈((cr.modify j fun e=>{ e with key:=a.eval y,val:=a.eval z }).toList.map (·.born)):=ae'.2 ⟨e,he,rfl⟩
        rw [Dm] at this
        obtain ⟨e',wG,aq⟩:=ae'.1 this
        rw [← aq];exact g3 e' wG)
      (by rw [Dm];exact g4) _ C
    exact ⟨_,_,p,cI _ (fh j val e dF (by simpa using c8) du),ck,cL,ev,rfl⟩
theorem aX.makeMap {o:Oper} {t:TypeId} (ai:o.op = .makeMap t none) {X:ag→ao→Prop}:aX P N o env s (fun x an=>∃ b,s b=none∧x = .map b∧an=s.set b (.map [])) X:=by
 refine aX.jZ (by simp [gS,ai]) fun ro B a w p aI=>?_
 obtain ⟨av,hle,ax,ca⟩:=sx aI.wf (.map #[] 0) (.map []) (fun w' jc aC hc=>⟨#[],0,jc,⟨.nil,.nil⟩,by simp,by simp⟩);refine ⟨.map (some w.heap.size),_,_,p,_,?_,hle,ax,ca,⟨w.heap.size,av,rfl,rfl⟩,.map _⟩;unfold execOp;rw [ai];exact gb C
end
theorem wV {vs:List Value} {sz:Nat} (h:∀ v∈vs,v.cells.size=sz):(flat vs).length=vs.length*sz:=by
 induction vs with
 | nil=>simp [flat]
 | cons v vs a8=>
  have eA:=a8 (fun u hu=>h u (f9 _ hu));simp only [flat,am0,f0,ai8,i9] at eA ⊢;rw [h v (g8 ..)];have U5:(aI4 (fun v=>v.cells.toList) vs).length=vs.length*sz:=eA;rw [U5,ao2];omega
theorem GS (vs us:List Value):flat (vs++us)=flat vs++flat us:=by simp [flat,List.flatMap_append]
theorem U6 {w:World} {p:bV} {s:ao} (ca:dn w p s) {vs:List Value} {xs:List ag} {sz cap:Nat} {e:TypeId} {cur:Array Value} (aC:b4 w p vs xs)
    (al:∀ v∈vs,v.cells.size=sz) (pS:cur.size=cap*sz) (wW:cur.toList.take (xs.length*sz)=flat vs) (kP:xs.length≤cap) (hm:xs.length≤9223372036854775807) :
    ∃ bg,s w.heap.size=none∧c2 w p (w.drew.alloc (.cells cur e)) bg∧Kept s (s.set w.heap.size (.row e sz xs.length)) w p (w.drew.alloc (.cells cur e)) bg ∧
      dn (w.drew.alloc (.cells cur e)) bg (s.set w.heap.size (.row e sz xs.length))∧Rel (w.drew.alloc (.cells cur e)) bg (.slice (some ⟨w.heap.size,0,none⟩) xs.length cap) (.aF sz xs (.own w.heap.size)):=by
  have av:s w.heap.size=none:=by
    cases h:s w.heap.size with
    | none=>rfl
    | some o'=>exact absurd (ca.obj _ _ h).lt ak
  let bg:bV:=fun b o=>p b o∨(b=w.heap.size∧o<xs.length*sz)
  have mU:(w.drew.alloc (.cells cur e)).heap[w.heap.size]? = some (.cells cur e):=ss w.drew _;have hold:∀ b,b<w.heap.size→(w.drew.alloc (.cells cur e)).heap[b]? = w.heap[b]? := fun b aq=>l9 w.drew _ b aq
  have hle:c2 w p (w.drew.alloc (.cells cur e)) bg:=c2.of_heap C C C bc (fun _ _ h => .inl h) ca.lt hold;have hlen:=wV al;have hmul:xs.length*sz≤cap*sz:=ao8 _ kP;refine ⟨bg,av,hle,⟨fun b aq _=>hold b aq,fun b aq al=>by rw [ao.eQ _ _ ak];exact al,fun b o aq _ aB=>by rcases aB with aB|⟨rfl,_⟩;exact aB;omega⟩,?_,?_⟩
  · have ay:dn (w.drew.alloc (.cells cur e)) bg s:=ca.grow hle hold (fun b o aq aB=>by rcases aB with aB|⟨rfl,_⟩;exact aB;omega) (fun b o aB=>by
      rcases aB with aB|⟨rfl,_⟩
      · have:=ca.lt b o aB;simp;omega
      · simp)
    refine ⟨fun b o aq=>?_,ay.lt⟩;by_cases e':b=w.heap.size
    · subst e'
      rw [ao.fH] at aq;cases aq;refine ⟨cur,mU,by omega,⟨cap,pS⟩,fun o=>⟨fun aB=>?_,fun ai => .inr ⟨rfl,ai⟩⟩⟩;rcases aB with aB|⟨_,ai⟩
      · exact absurd (ca.lt _ _ aB) ak
      · exact ai
    · rw [ao.eQ _ _ e'] at aq;exact ay.obj b o aq
  · refine .aF _ 0 _ _ _ vs _ _ bc rfl ?_ (aC.mono hle) al hm kP (fun h=>by cases h) (fun b aq=>?_)
    · intro i v aD
      have aQ:i<xs.length*sz:=by
        have:=(ac'.1 aD).1;rw [hlen,aC.length] at this;exact this
      refine ⟨.inr ⟨rfl,by omega⟩,?_⟩;rw [aj8,jN mU];rw [← wW,al',f7 aQ] at aD;simpa using aD
    · cases aq
      exact ⟨rfl,rfl,e,by simp only [World.kM,mU,pS]⟩
theorem U7 {w:World} {p:bV} {s:ao} (ca:dn w p s) {b:Nat} {e:TypeId} {sz n cap:Nat} (tI:s b=some (.row e sz n)) {cur:Array Value} (ky:w.heap[b]? = some (.cells cur e (0,0)))
  (pS:cur.size=cap*sz) {vs us:List Value} {xs ys:List ag} (av:n=xs.length) (aC:b4 w p vs xs) (hu:b4 w p us ys) (al:∀ v∈vs,v.cells.size=sz) (qx:∀ v∈us,v.cells.size=sz)
  (wW:cur.toList.take (n*sz)=flat vs) (kP:n+us.length≤cap) (hm:n+us.length≤9223372036854775807) :
  ∃ bg,c2 w p (w.setRow b (cur.toList.take (n*sz)++flat us++cur.toList.drop (n*sz+(flat us).length)).toArray) bg ∧
   Kept s ((s.del b).set b (.row e sz (n+us.length))) w p (w.setRow b (cur.toList.take (n*sz)++flat us++cur.toList.drop (n*sz+(flat us).length)).toArray) bg ∧
   dn (w.setRow b (cur.toList.take (n*sz)++flat us++cur.toList.drop (n*sz+(flat us).length)).toArray) bg ((s.del b).set b (.row e sz (n+us.length))) ∧
   Rel (w.setRow b (cur.toList.take (n*sz)++flat us++cur.toList.drop (n*sz+(flat us).length)).toArray) bg (.slice (some ⟨b,0,none⟩) (n+us.length) cap) (.aF sz (xs++ys) (.own b)):=by
 obtain ⟨agy,U,ad,aj,bk⟩:=ca.obj _ _ tI;rw [ky] at U;cases U;have lJ:=wV qx;have gm:=wV al;have hmul:n*sz+us.length*sz≤cap*sz:=by rw [← ao2];exact ao8 _ kP
 generalize AP:(cur.toList.take (n*sz)++flat us++cur.toList.drop (n*sz+(flat us).length)).toArray=new;have pT:new.toList=cur.toList.take (n*sz)++flat us++cur.toList.drop (n*sz+(flat us).length):=by rw [← AP]
 have cm:cur.toList.length=cap*sz:=by rw [ai8,pS]
 have Dn:new.size=cur.size:=by rw [← ai8,pT];simp only [f0,ah',an0,lJ,cm,pS];omega
 have au:b<w.heap.size:=(t6.1 ky).1;have dH:=setRow_heap w b cur new e (0,0) ky;have gM:∀ k,k≠b→(w.setRow b new).heap[k]? = w.heap[k]? := fun k ax=>setRow_other w b k new ax
 have AQ:∀ o,o<n*sz→new[o]? = cur[o]? := fun o ai=>by
  have:new.toList[o]? = cur.toList[o]?:=by
   rw [pT,aj0,ak3 yE,al',f7 ai]
  simpa using this
 let bg:bV:=fun aW o=>p aW o∨(aW=b∧o<(n+us.length)*sz)
 have hle:c2 w p (w.setRow b new) bg:=by
  refine ⟨rfl,rfl,rfl,by simp,fun _ _ h => .inl h,fun aW o aB=>?_,fun aW x aa=>?_⟩
  ·by_cases e':aW=b
   ·subst e'
    rw [jN dH,jN ky];exact AQ o ((bk o).1 aB)
   ·exact wJ (gM aW e')
  ·by_cases e':aW=b
   ·subst e'
    simp only [World.kM,ky,dH] at aa ⊢;rw [Dn];exact aa
   ·rw [wI (gM aW e')];exact aa
 refine ⟨bg,hle,⟨fun aW aq av=>gM aW (fun e'=>by rw [e',tI] at av;simp at av),fun aW aq av=>?_,fun aW o aq av aB=>?_⟩,⟨fun aW o' oP=>?_,fun aW o aB=>?_⟩,?_⟩
 ·have cN:aW≠b:=fun e'=>by rw [e',tI] at av;simp at av
  rw [ao.eQ _ _ cN,ao.nE _ cN];exact av
 ·rcases aB with aB|⟨e',_⟩
  ·exact aB
  ·rw [e',tI] at av;simp at av
 ·by_cases e':aW=b
  ·subst e'
   rw [ao.fH] at oP;cases oP;refine ⟨new,dH,by rw [Dn,pS,ao2];omega,⟨cap,by rw [Dn,pS]⟩,fun o=>⟨fun aB=>?_,fun ai => .inr ⟨rfl,ai⟩⟩⟩;rcases aB with aB|⟨_,ai⟩
   ·have:=(bk o).1 aB;rw [ao2];omega
   ·exact ai
  ·rw [ao.eQ _ _ e',ao.nE _ e'] at oP
   have ai:=ca.obj aW o' oP;have c4:=gM aW e';have yR:∀ o,bg aW o↔p aW o:=fun o=>⟨fun aB=>by rcases aB with aB|⟨GU,_⟩;exact aB;exact absurd GU e',.inl⟩
   cases o' with
   | box t c=>obtain ⟨us,g1,g2,g3⟩:=ai;exact ⟨us,c4.trans g1,g2.mono hle,fun o aB=>g3 o ((yR o).1 aB)⟩
   | row t sz n=>obtain ⟨cur,g1,g2,g3,g4⟩:=ai;exact ⟨cur,c4.trans g1,g2,g3,fun o=>(yR o).trans (g4 o)⟩
   | map es=>obtain ⟨cr,c,g1,g2,g3⟩:=ai;exact ⟨cr,c,c4.trans g1,⟨g2.1.mono hle,g2.2.mono hle⟩,g3⟩
   | hz es it l c=>exact ai.qt hle c4 (gM it (ai.AB ky bc))
   | tick m=>obtain ⟨fg,a2,a3,g1⟩:=ai;exact ⟨fg,a2,a3,c4.trans g1⟩
   | loop r env=>exact ⟨c4.trans ai.1,fun t v h=>(ai.2 t v h).mono hle⟩
 ·rcases aB with aB|⟨rfl,_⟩
  ·simpa using ca.lt aW o aB
  ·simpa using au
 ·have j1:(xs++ys).length=n+us.length:=by rw [f0,av,hu.length]
  refine .aF _ 0 _ _ _ (vs++us) _ _ bc j1.symm ?_ ((aC.append hu).mono hle) (fun v aD=>?_) hm kP (fun h=>by cases h) (fun AR sn=>?_)
  ·intro i v aD
   have gd:flat (vs++us)=new.toList.take ((n+us.length)*sz):=by
    rw [GS,pT,← wW,ao2,← lJ];have:n*sz+(flat us).length=(cur.toList.take (n*sz)++flat us).length:=by rw [f0,ah',cm];omega
    rw [this,ay2]
   have aQ:i<(n+us.length)*sz:=by
    have:=(ac'.1 aD).1;rw [gd,ah'] at this;omega
   refine ⟨.inr ⟨rfl,by omega⟩,?_⟩;rw [aj8,jN dH];rw [gd,al',f7 aQ] at aD;simpa using aD
  ·rcases ab'.1 aD with aD|aD
   ·exact al v aD
   ·exact qx v aD
  ·cases sn
   exact ⟨rfl,rfl,e,by simp only [World.kM,dH,Dn,pS]⟩
section
variable {P:Program} {Γ:cz} {N:Nat} {env:Env} {s:ao}
theorem Dp {t bR ty e:TypeId} {db:TypeDesc} {i:TypeInfo} (w:World) (aN:P.underlying t=some (.slice e)) (dp:P.underlying bR=some db) (cH:∀ k,db ≠ .int k) (aQ:P.info? e=some i)
  (g sLen sCap:Nat) (cur:Array Value) (ay:w.heap[g]? = some (.cells cur e (0,0))) {xv:Value} {m:Nat} {news:List Value}
  (aE:(Builtin.lenOf xv).run P w = .ok m w) (aZ:(Builtin.firstCells i.size m xv).run P w = .ok news.toArray w) (U:∀ u∈news,u.oneCell'=true)
  (U8:sLen+m≤sCap) (er:sLen*i.size+news.length≤cur.size) :
  (Builtin.append_ #[t,bR] ty #[.slice (some ⟨g,0,none⟩) sLen sCap,xv]).run P w =
   .ok (.slice (some ⟨g,0,none⟩) (sLen+m) sCap) (w.setRow g (cur.toList.take (sLen*i.size)++news++cur.toList.drop (sLen*i.size+news.length)).toArray):=by
 have aI:=run_storeCells_at P g (sLen*i.size) e news 0 cur w ay (by simpa using er) U;simp only [as8] at aI;have bO:(match db with | .int _=>true|_=>false)=false:=by cases db<;>first|rfl|exact absurd C (cH _)
 simp [Builtin.append_,run_underlying aN,run_underlying dp,sizeOf,typeInfo,aQ,bO,aE,U8,aZ,Addr.add_lit,aI]
theorem AS {t bR ty e:TypeId} {db:TypeDesc} {i:TypeInfo} {z:Value} (w:World) (aN:P.underlying t=some (.slice e)) (dp:P.underlying bR=some db) (cH:∀ k,db ≠ .int k) (aQ:P.info? e=some i) (bO:i.zero=some z)
  {base:Option Addr} {sLen sCap:Nat} {xv:Value} {m:Nat} {olds news:List Value}
  (aE:(Builtin.lenOf xv).run P w = .ok m w) (tJ:(Builtin.firstCells i.size sLen (.slice base sLen sCap)).run P w.drew = .ok olds.toArray w.drew) (aZ:(Builtin.firstCells i.size m xv).run P w.drew = .ok news.toArray w.drew)
  (ay:sCap<sLen+m) (eR:((sLen+m:Nat):Int)≤9223372036854775807) (er:Builtin.nextslicecap (sLen+m) sCap*i.bytes≤281474976710656) :
  (Builtin.append_ #[t,bR] ty #[.slice base sLen sCap,xv]).run P w =
   .ok (.slice (some ⟨w.heap.size,0,none⟩) (sLen+m) (grownCap w (sLen+m) sCap e))
    (w.drew.alloc (.cells (olds++news++(Builtin.zeroCells z.cells (grownCap w (sLen+m) sCap e-(sLen+m))).toList).toArray e)):=by
 have av:¬ (sLen+m≤sCap):=by omega
 have U9:¬ (9223372036854775807<((sLen:Int)+(m:Int))):=by omega
 have U':¬ (281474976710656<Builtin.nextslicecap (sLen+m) sCap*i.bytes):=by omega
 have tK:(match db with | .int _=>true|_=>false)=false:=by cases db<;>first|rfl|exact absurd C (cH _)
 simp [Builtin.append_,run_underlying aN,run_underlying dp,sizeOf,typeInfo,zeroValue,aQ,bO,tK,aE,av,U9,U',Question.forced,aZ,tJ,newRow,grownCap];congr 2;apply at';simp [aj0]
def mf (sz:Nat) (x:ag):Bool:=match cellsOf x with
 | some cs=>aj4 cs.length sz&&cs.all eZ
 | none=>false
theorem Va {w:World} {p:bV} {sz:Nat}:∀ {vs:List Value} {xs:List ag},b4 w p vs xs→(∀ x∈xs,mf sz x=true)→∀ u∈flat vs,u.oneCell'=true:=by
 intro vs
 induction vs with
 | nil=>intro xs _ _ u hu;simp [flat] at hu
 | cons v vs a8=>
  intro xs h aa u hu;cases h with
  | cons _ x _ xs aC aN=>
  simp only [flat,am0,ab'] at hu;rcases hu with hu|hu
  ·have:=aa x (g8 ..)
   unfold mf at this;split at this
   ·rename_i cs iC
    simp only [d6] at this;exact oQ (su aC iC) this.2 u hu
   ·cases this
  ·exact a8 aN (fun y ar=>aa y (f9 _ ar)) u hu
theorem pU {w:World} {p:bV} {v:Value} {sz sz':Nat} {xs:List ag} {own:bM} (h:Rel w p v (.aF sz xs own)) (b6:xs=[]∨sz=sz') :
  ∃ vs,b4 w p vs xs∧(∀ u∈vs,u.cells.size=sz')∧(∀ P,(Builtin.lenOf v).run P w = .ok xs.length w) ∧
   (∀ P (w':World),(∀ b o,p b o→w'.cell? ⟨b,o,none⟩=w.cell? ⟨b,o,none⟩)→(Builtin.firstCells sz' xs.length v).run P w' = .ok (flat vs).toArray w') ∧
   ∃ base cap,v = .slice base xs.length cap:=by
 cases h with
 | iA _ _ _=>exact ⟨[],.nil,by simp,fun P=>rfl,fun P w' _=>rfl,_,_,rfl⟩
 | jo a _ _ _=>exact ⟨[],.nil,by simp,fun P=>rfl,fun P w' _=>run_firstCells_some w' sz' 0 a _ _ [] bc bc,_,_,rfl⟩
 | aF g off n cap _ vs _ _ av aE aw aC al hm ax cm ai=>
  have wX:∀ u∈vs,u.cells.size=sz':=by
   rcases b6 with rfl|rfl
   ·have:vs=[]:=ak7 (by rw [aC.length];rfl)
    subst this;simp
   ·exact al
  subst aE;refine ⟨vs,aC,wX,fun P=>rfl,fun P w' jc=>?_,_,_,rfl⟩;refine run_firstCells_some w' sz' xs.length ⟨g,off,none⟩ _ _ (flat vs) (by rw [wV wX,aC.length]) ?_;intro j u hu;obtain ⟨U,ad⟩:=aw j u hu;rw [lf,jc _ _ U];exact ad
theorem aX.append (aP:bX P Γ) {o:Oper} {t bR e:TypeId} {x y:Operand} {it cT aJ:bQ} {eI b9:Nat} {xs ys:List ag} {sy dW:bM}
    (ai:o.op = .call { callee := .builtin .append,args := #[x,y],argTypes := #[t,bR] }) (aN:Γ.get? t=some it) (bw:it.bN = .aF e) (dp:Γ.get? bR=some cT) (ed:∀ k,cT.bN ≠ .int k)
    (bP:Γ.get? e=some aJ) (aa:aL env x=some (.aF eI xs sy)) (ar:aL env y=some (.aF b9 ys dW)) (jO:xs=[]∨eI=aJ.size) (dN:ys=[]∨b9=aJ.size)
    (eE:aj4 aJ.zero.cells.size aJ.size=true) (ew:∀ y∈ys,mf aJ.size y=true) (aq:(xs.length+ys.length)*aJ.bytes≤140737488355328) (eR:xs.length+ys.length≤9223372036854775807)
    (wY:(sy = .nil∨sy = .clip)∨∃ b,sy = .own b∧eI=aJ.size∧s b=some (.row e aJ.size xs.length)) {X:ag→ao→Prop} :
    aX P N o env s (fun r an=>(ys=[]∧(sy = .nil∨sy = .clip)∧r = .aF aJ.size xs sy∧an=s) ∨
      (∃ s₁,(s₁=s∨∃ b,sy = .own b∧s₁=s.del b)∧∃ b,s₁ b=none∧r = .aF aJ.size (xs++ys) (.own b)∧an=s₁.set b (.row e aJ.size (xs.length+ys.length)))) X:=by
  refine aX.jZ (by simp [gS,ai]) fun ro B a w p aI=>?_
  obtain ⟨info,d,U,ad,aj,-⟩:=aP.parts aN;obtain ⟨nB,db,g1,g2,g3,-⟩:=aP.parts dp;obtain ⟨jv,j0,ck,cL,ev,ee,lj,mg⟩:=aP.parts bP;have aA:d = .slice e:=by rw [bw] at aj;cases d<;>simp [ec] at aj;rw [aj]
  subst aA;have cH:∀ k,db ≠ .int k:=fun k e'=>by subst e';exact ed k g3.symm
  have fz:=aI.aL aa;have eH:=aI.aL ar;have ef:∀ val w',(Builtin.append_ #[t,bR] o.type #[a.eval x,a.eval y]).run P w = .ok val w'→(execOp a.eval o).run P w = .ok (.value val) w':=by
    intro val w' h;unfold execOp;rw [ai];simp only [resolve,invoke,builtin,H1,ai5,i0,au',ai2,aj5,h]
  generalize dM:a.eval x=dy at fz ef;generalize fj:a.eval y=fX at eH ef;obtain ⟨us,hq,oT,jw,jd,sA,sB,sC⟩:=pU eH dN;obtain ⟨vs,nF,lK,LM,GV,Dq,qy,tL⟩:=pU fz jO;have j2:=Va hq ew;have pQ:=ai3 eE;have GW:=wV oT;have LN:=wV lK;have mV:=hq.length;have sD:=nF.length;have LO:∀ s₁:ao,(s₁=s∨∃ b,sy = .own b∧s₁=s.del b)→qy<xs.length+ys.length →
      ∃ val w' an bg l7,(Builtin.append_ #[t,bR] o.type #[dy,fX]).run P w = .ok val w'∧c2 w p w' bg∧Kept s an w p w' bg∧dn w' bg an ∧
        (∃ b,s₁ b=none∧l7 = .aF aJ.size (xs++ys) (.own b)∧an=s₁.set b (.row e aJ.size (xs.length+ys.length)))∧Rel w' bg val l7:=by
    intro s₁ AT au;have gC:ao.Sub s₁ s:=by
      rcases AT with rfl|⟨b,-,rfl⟩
      · exact ao.pR _
      · intro aW;by_cases e':aW=b
        · subst e';exact .inr (ao.ob _ _)
        · exact .inl (ao.nE _ e')
    have er:=growslice_fits (need:=xs.length+ys.length) (old:=qy) (bytes:=aJ.bytes) au aq;have cI:=AS (ty:=o.type) w ad g2 cH ck mg (base:=Dq) (sLen:=xs.length) (sCap:=qy) (m:=ys.length) (olds:=flat vs) (news:=flat us) (jw P)
      (by rw [← tL,ee];exact GV P w.drew (fun _ _ _=>rfl)) (by rw [ee];exact jd P w.drew (fun _ _ _=>rfl)) au ak (by rw [lj];exact er)
    rw [← tL] at cI;have oe:=al7 (show xs.length+ys.length≤xs.length+ys.length from t7 _) (show xs.length+ys.length≤grownCap w (xs.length+ys.length) qy e from by simp [grownCap,Question.cut]);have oU:(Builtin.zeroCells aJ.zero.cells (grownCap w (xs.length+ys.length) qy e-(xs.length+ys.length))).toList.length=(grownCap w (xs.length+ys.length) qy e-(xs.length+ys.length))*aJ.zero.cells.size:=by
      rw [ai8];simp [Builtin.zeroCells]
    rw [pQ] at oU;have Dr:(xs++ys).length=xs.length+ys.length:=f0;obtain ⟨bg,dF,c8,du,lh,tM⟩:=U6 (s:=s₁) (aI.wf.sub gC) (vs:=vs++us) (xs:=xs++ys) (sz:=aJ.size) (cap:=grownCap w (xs.length+ys.length) qy e) (e:=e)
      (cur:=(flat vs++flat us++(Builtin.zeroCells aJ.zero.cells (grownCap w (xs.length+ys.length) qy e-(xs.length+ys.length))).toList).toArray) (nF.append hq)
      (fun v aD=>by rcases ab'.1 aD with aD|aD;exact lK v aD;exact oT v aD)
      (by
        simp only [ap2,f0,LN,GW,oU,sD,mV,← ao2]
        congr 1;omega)
      (by
        have:(xs++ys).length*aJ.size=(flat vs++flat us).length:=by rw [Dr,f0,LN,GW,sD,mV,ao2]
        rw [this,GS];simp only [ay2])
      (by rw [Dr];exact oe) (by rw [Dr];exact eR)
    rw [Dr] at du lh tM;exact ⟨_,_,_,bg,_,cI,c8,du.yI gC,lh,⟨w.heap.size,dF,rfl,rfl⟩,tM⟩
  rcases wY with wY|⟨b,rfl,Vb,tI⟩
  · by_cases au:qy<xs.length+ys.length
    · obtain ⟨val,w',an,bg,l7,eD,fh,gv,jx,mW,mX⟩:=LO s (.inl rfl) au
      exact ⟨val,w',an,bg,l7,ef _ _ eD,fh,gv,jx,.inr ⟨s,.inl C,mW⟩,mX⟩
    ·
      have kP:qy=xs.length:=by
        cases fz with
        | iA=>simp at tL;omega
        | jo=>simp at tL;omega
        | aF g off n cap _ vs' _ _ av aE aw aC al hm ax cm ai=>
          simp only [Value.slice.injEq] at tL;rcases wY with rfl|rfl
          · exact absurd C av
          · rw [← tL.2.2,cm C,aE]
      have gl:ys=[]:=ak7 ak;subst gl;have Dj:us=[]:=ak7 (by simpa using mV);subst Dj;refine ⟨dy,w,s,p,.aF aJ.size xs sy,ef _ _ ?_,.refl w p,.refl s w p,aI.wf,.inl ⟨rfl,wY,rfl,rfl⟩,?_⟩
      · have bO:(match db with | .int _=>true|_=>false)=false:=by cases db<;>first|rfl|exact absurd C (cH _)
        have hle:xs.length≤qy:=by omega
        have tN:=jd P w (fun _ _ _=>rfl);simp only [List.length_nil] at tN jw;have va:=jw P;rw [tL];cases Dq with
        | none=>simp [Builtin.append_,run_underlying ad,run_underlying g2,sizeOf,typeInfo,ck,bO,va,ee,tN,hle,flat]
        | some ahQ=>simp [Builtin.append_,run_underlying ad,run_underlying g2,sizeOf,typeInfo,ck,bO,va,ee,tN,hle,flat,storeCells]
      · rcases jO with rfl|rfl
        · cases fz with
          | iA _ _ h=>exact .iA _ _ h
          | jo a _ _ h=>exact .jo a _ _ h
          | aF g off n cap _ vs' _ _ av aE aw aC al hm ax cm ai=>
            have:vs'=[]:=ak7 (by rw [aC.length];rfl);subst this;exact .aF g off n cap _ [] _ _ av aE aw aC bc hm ax cm (fun b aq=>by rcases wY with rfl|rfl<;>cases aq)
        · exact fz
  · by_cases au:qy<xs.length+ys.length
    · obtain ⟨val,w',an,bg,l7,eD,fh,gv,jx,mW,mX⟩:=LO (s.del b) (.inr ⟨b,rfl,rfl⟩) au
      exact ⟨val,w',an,bg,l7,ef _ _ eD,fh,gv,jx,.inr ⟨_,.inr ⟨b,rfl,rfl⟩,mW⟩,mX⟩
    · cases fz with
      | iA _ _ h=>exact absurd C (h b)
      | jo _ _ _ h=>rcases h with h|h<;>cases h
      | aF g off n cap _ vs' _ _ av aE aw aC al hm ax cm ai=>
        obtain ⟨rfl,rfl,e',LP⟩:=ai b rfl;obtain ⟨cur,cx,cE,⟨b0,dz⟩,ik⟩:=aI.wf.obj _ _ tI;simp only [Value.slice.injEq] at tL;obtain ⟨rfl,-,rfl⟩:=tL;have pS:cur.size=cap*eI:=by
          simp only [World.kM,cx] at LP;simpa using ak5 Prod.snd (ap7.inj LP)
        have GX:cur.size=cap*aJ.size:=by rw [← Vb];exact pS
        have wW:cur.toList.take (xs.length*aJ.size)=flat vs:=by
          have bT:=GV P w (fun _ _ _=>rfl);have bI:=run_firstCells_some (P:=P) w aJ.size xs.length ⟨b,0,none⟩ n cap (cur.toList.take (xs.length*aJ.size))
            (by have cm:cur.toList.length=cap*aJ.size:=by rw [ai8,GX]
                rw [ah',cm];have:=ao8 aJ.size (show xs.length≤cap by omega);omega)
            (fun j u hu=>by
              rw [lf,aj8,jN cx]
              rw [al'] at hu
              split at hu
              · simpa using hu
              · cases hu)
          rw [bI] at bT;have:=Result.ok.inj bT;simpa using this.1
        have cI:=Dp (ty:=o.type) w ad g2 cH ck b xs.length cap cur cx (jw P) (by rw [ee];exact jd P w (fun _ _ _=>rfl)) j2 ak (by rw [ee,GW,GX,mV,← ao2];exact ao8 _ ak);rw [ee] at cI;obtain ⟨bg,eD,fh,gv,jx⟩:=U7 aI.wf tI cx GX rfl nF hq lK oT wW (by rw [mV];omega) (by rw [mV];exact eR);rw [mV] at fh gv jx;subst aE;exact ⟨_,_,_,bg,_,ef _ _ cI,eD,fh,gv,.inr ⟨_,.inr ⟨_,rfl,rfl⟩,_,ao.ob _ _,rfl,rfl⟩,jx⟩
end
inductive eS where
 | ret (v:ag)
 | panic (v:ag)
def Vc (w:World) (p:bV):Ending→eS→Prop
 | .returned v,.ret x=>Rel w p v x
 | .panicked dC,.panic x=>∃ v,yG v dC∧Rel w p v x
 | _,_=>False
def wZ (s:ao) (w:World) (p:bV) (R:eS→ao→Prop) (e:Ending) (w':World):Prop:=
 ∃ o an bg,Vc w' bg e o∧R o an∧c2 w p w' bg∧Kept s an w p w' bg∧dn w' bg an
def iN (P:Program) (fv:ag) (args:List ag) (s:ao) (R:eS→ao→Prop):Prop:=
 ∀ w p v vs,dn w p s→Rel w p v fv→b4 w p vs args→qs P ((do let d ← Deferred.ofValue v vs.toArray;invoke d.target d.args:Sem Next).run P w) (wZ s w p R)
def rr (P:Program) (f:FuncId):Prop:=∀ args w,(callFunc f args).run P w = .ok (.enter f args) w
def hX (P:Program) (f:FuncId) (args:List ag) (s:ao) (R:eS→ao→Prop):Prop:=
 rr P f∧∀ w p vs,dn w p s→b4 w p vs args→tw P f vs.toArray w (wZ s w p R)
theorem yS {P:Program} {f:FuncId} {fn:Func} (aZ:P.funcs[f]? = some fn) (av:(fn.name == "runtime.NumGoroutine")=false) (aq:fn.body.isNone=false):rr P f:=by
 intro args w;unfold callFunc;simp only [H1,run_program,i0,aZ,av,aq,aj2,al0,ai5]
theorem wZ.mono {s:ao} {w:World} {p:bV} {R c':eS→ao→Prop} (aC:∀ o s,R o s→c' o s) {e:Ending} {w':World} (h:wZ s w p R e w'):wZ s w p c' e w' :=
 let ⟨o,an,bg,U,ad,aj⟩:=h;⟨o,an,bg,U,aC _ _ ad,aj⟩
theorem iN.mono {P:Program} {fv:ag} {args:List ag} {s:ao} {R c':eS→ao→Prop} (h:iN P fv args s R) (aC:∀ o s,R o s→c' o s):iN P fv args s c' :=
 fun w p v vs U ad aj=>(h w p v vs U ad aj).mono fun _ _ q=>q.mono aC
theorem hX.mono {P:Program} {f:FuncId} {args:List ag} {s:ao} {R c':eS→ao→Prop} (h:hX P f args s R) (aC:∀ o s,R o s→c' o s):hX P f args s c' :=
 ⟨h.1,fun w p vs U ad=>(h.2 w p vs U ad).mono fun _ _ q=>q.mono aC⟩
theorem iN.ey {P:Program} {f:FuncId} {first cap args:List ag} {s:ao} {R:eS→ao→Prop} (h:hX P f (first++(args++cap)) s R):iN P (.func f first cap) args s R:=by
 intro w p v vs ca aD gE;cases aD with
 | func _ as cs _ _ bp aw=>
 have cI:(do let d ← Deferred.ofValue (.func (.func f) as cs) vs.toArray;invoke d.target d.args:Sem Next).run P w = .ok (.enter f (as++vs.toArray++cs)) w:=by
  simp only [Deferred.ofValue,H1,ai5,i0,invoke];exact h.1 _ _
 rw [cI];have:=h.2 w p (as.toList++(vs++cs.toList)) ca (bp.append (gE.append aw));have e:(as.toList++(vs++cs.toList)).toArray=as++vs.toArray++cs:=by apply at';simp
 rw [e] at this;exact this
section
variable {P:Program} {Γ:cz} {N:Nat} {env:Env} {s:ao}
theorem aX.call {o:Oper} {g:Operand} {as:Array Operand} {cP:Array TypeId} {fv:ag} {xs:List ag} {R:eS→ao→Prop}
  (ai:o.op = .call { callee := .value g,args:=as,argTypes:=cP }) (ay:aL env g=some fv) (bp:gu env as.toList=some xs) (h:iN P fv xs s R) :
  aX P N o env s (fun x an=>R (.ret x) an) (fun x an=>R (.panic x) an):=by
 refine ⟨by simp [gS,ai],fun ro B a w p aI=>?_⟩;have cI:=h w p (a.eval g) (as.toList.map a.eval) aI.wf (aI.aL ay) (C' aI bp);have he:execOp a.eval o=(do let d ← Deferred.ofValue (a.eval g) (as.toList.map a.eval).toArray;invoke d.target d.args:Sem Next):=by
  unfold execOp;rw [ai];simp only [resolve];congr 1;congr 1;apply at';simp
 rw [he];refine cI.mono ?_;rintro e w' ⟨out,an,bg,U,ad,aj,bk,bF⟩;refine ⟨an,bg,aj,bk,bF,?_⟩;cases e<;>cases out<;>first|exact U.elim|skip
 ·exact ⟨_,ad,U⟩
 ·obtain ⟨v,GY,GZ⟩:=U;exact ⟨v,_,GY,ad,GZ⟩
def yT (P:Program) (t:TypeId) (name:String) (f:FuncId):Prop:=∀ v w,(method (P.types.size+Made.depth) t v name).run P w = .ok (f,v) w
theorem Vd {P:Program} {t:TypeId} {name:String} {f:FuncId} {info:TypeInfo} {m:Method} {d:TypeDesc} (aQ:P.info? t=some info) (hm:info.methods.find? (·.name==name)=some m) (aB:m.path = #[])
  (aZ:m.func=some (f,false)) (aA:P.underlying t=some d) (Ve:∀ e,d ≠ .pointer e) (w0:∃ n,P.types.size+Made.depth=n+1):yT P t name f:=by
 intro v w;obtain ⟨n,av⟩:=w0;rw [av];unfold method;simp only [H1,typeInfo,run_program,i0,aQ,ai5,hm,aB,follow,aZ,receiverAt,run_underlying aA];cases d<;>first|exact absurd C (Ve _)|rfl
theorem Vf {name:String} {cap args:Array Value}:Go.invoke (.fn (.method name) cap) args=(match args[0]? with
  | some recv=>callMethod recv name (args.extract 1 args.size)
  | none=>stuck "call: a method without a receiver"):=by
 cases h:args[0]? <;> simp [Go.invoke,h]
theorem aX.invoke {o:Oper} {g:Operand} {name:String} {as:Array Operand} {cP:Array TypeId} {t:TypeId} {v:ag} {f:FuncId} {xs:List ag} {R:eS→ao→Prop}
  (ai:o.op = .call { callee := .invoke g name,args:=as,argTypes:=cP }) (ay:aL env g=some (.iface t v)) (bp:gu env as.toList=some xs) (hm:yT P t name f) (h:hX P f (v::xs) s R) :
  aX P N o env s (fun x an=>R (.ret x) an) (fun x an=>R (.panic x) an):=by
 refine ⟨by simp [gS,ai],fun ro B a w p aI=>?_⟩;have kd:=aI.aL ay;generalize Vg:a.eval g=ah9 at kd;cases kd with
 | iface _ val _ oV=>
 have cI:(execOp a.eval o).run P w = .ok (.enter f (#[val]++(as.map a.eval))) w:=by
  unfold execOp;rw [ai];have hex:(#[Value.iface t val]++as.map a.eval).extract 1 (#[Value.iface t val]++as.map a.eval).size=as.map a.eval:=by
   apply at';simp [az5,List.take_of_length_le]
  have bn:(#[Value.iface t val]++as.map a.eval)[0]? = some (Value.iface t val):=by
   rw [aw7 bc];rfl
  simp only [resolve,Vg,H1,ai5,i0];rw [Go.Proofs.YtimbpjfhekcofaaGreat.Vf,bn];simp only [hex,callMethod,H1,run_program,i0,hm val w];exact h.1 _ _
 rw [cI];have:=h.2 w p (val::as.toList.map a.eval) aI.wf (.cons _ _ _ _ oV (C' aI bp));have e:(val::as.toList.map a.eval).toArray = #[val]++(as.map a.eval):=by apply at';simp
 rw [e] at this;refine this.mono ?_;rintro e w' ⟨out,an,bg,U,ad,aj,bk,bF⟩;refine ⟨an,bg,aj,bk,bF,?_⟩;cases e<;>cases out<;>first|exact U.elim|skip
 ·exact ⟨_,ad,U⟩
 ·obtain ⟨v,GY,GZ⟩:=U;exact ⟨v,_,GY,ad,GZ⟩
theorem aX.panic {o:Oper} {x:Operand} {t:TypeId} {v:ag} (ai:o.op = .panic x) (aa:aL env x=some (.iface t v)) {K:ag→ao→Prop}:aX P N o env s K (fun u an=>u = .iface t v∧an=s):=by
 refine ⟨by simp [gS,ai],fun ro B a w p aI=>?_⟩;have aC:=aI.aL aa;generalize aD:a.eval x=dy at aC;cases aC with
 | iface _ val _ oV=>
 have cI:(execOp a.eval o).run P w = .halt (.panic (.iface t val)) w:=by
  unfold execOp;rw [ai];simp only [aD,Instr.panic,H1,run_goPanic,Result.andThen_halt]
 rw [cI];exact ⟨s,p,.refl w p,.refl s w p,aI.wf,_,_,yG.one _,⟨rfl,rfl⟩,.iface _ _ _ oV⟩
theorem Vh {sz:Nat}:∀ {vs:List Value} (_:∀ v∈vs,v.cells.size=sz) {j:Nat} {v:Value} (_:vs[j]? = some v) (k:Nat) {u:Value} (_:v.cells.toList[k]? = some u),(flat vs)[j*sz+k]? = some u:=by
 intro vs
 induction vs with
 | nil=>intro _ j v aD;simp at aD
 | cons x vs a8=>
  intro al j v aD k u hu;have aa:=al x (g8 ..);simp only [flat,am0];cases j with
  | zero=>
   simp at aD;subst aD;rw [Nat.zero_mul,aj8,ak3 (ac'.1 hu).1];exact hu
  | succ j=>
   have aE:x.cells.toList.length=sz:=by rw [ai8,aa]
   have:=a8 (fun v aD=>al v (f9 _ aD)) (by simpa using aD) k hu;rw [ak0 (by rw [aE,ao2];omega),aE];have he:(j+1)*sz+k-sz=j*sz+k:=by rw [ao2];omega
   rw [he];exact this
end
def w1 (Γ:cz) (o:Oper) (env:Env):Option ag:=
  match o.op with
  | .binOp .quo _ x (.const (.int k (.ofNat (n+1)))) _=>match aL env x with
    | some (.int k' a)=>if k'=k then some (.int k (k.wrap (a.tdiv (aA2 (n+1))))) else none
    | _=>none
  | .binOp .rem _ x (.const (.int k (.ofNat (n+1)))) _=>match aL env x with
    | some (.int k' a)=>if k'=k then some (.int k (a.tmod (aA2 (n+1)))) else none
    | _=>none
  | .convert s d x=>match Γ.get? s,Γ.get? d with
    | some ⟨.int _,_,_,_⟩,some ⟨.int k,_,_,_⟩=>match aL env x with
      | some (.int _ n)=>some (.int k (k.wrap n))
      | _=>none
    | _,_=>none
  | .call { callee := .builtin .max,args,argTypes:=_ }=>match args.toList with
    | [x,y]=>match aL env x,aL env y with
      | some (.int k a),some (.int _ b)=>some (.int k (if b>a then b else a))
      | _,_=>none
    | _=>none
  | .call { callee := .builtin .min,args,argTypes:=_ }=>match args.toList with
    | [x,y]=>match aL env x,aL env y with
      | some (.int k a),some (.int _ b)=>some (.int k (if b<a then b else a))
      | _,_=>none
    | _=>none
  | _=>none
section
variable {P:Program} {Γ:cz} (aP:bX P Γ) {N:Nat} {B:fP} {ro:Option Nat} {env:Env} {s:ao} {a:Act} {w:World} {p:bV} (aI:dx N B ro env s a w p)
theorem w2 {o:Oper} {op:BinOp} {t yt:TypeId} {x y:Operand} {v:Value} {r:ag} (ai:o.op = .binOp op t x y yt)
  (U:(eqGuard op t x y (a.eval x) (a.eval y)).run P w = .ok () w) (ad:(binOp op t (a.eval x) (a.eval y)).run P w = .ok v w) (aC:Rel w p v r):gT P o a w p r:=by
 refine .same (val:=v) ?_ aC;unfold execOp;rw [ai];refine gb ?_;rw [H1,U,i0,ad]
include aI
include aP
theorem Vi {o:Oper} {v:ag} (h:w1 Γ o env=some v):gT P o a w p v:=by
 unfold w1 at h;split at h
 ·rename_i t x k n yt ai
  split at h
  ·rename_i k' u aa
   split at h
   ·rename_i ax
    cases h;subst ax;have U:=aI.aL aa;generalize aD:a.eval x=dy at U;cases U;refine w2 (v := .int k' (k'.wrap (u.tdiv (aA2 (n+1))))) ai ?_ ?_ (.int _ _)
    ·rfl
    ·rw [aD]
     have av:¬ (aA2 (n+1)=0):=by simp;omega
     simp only [Act.eval,binOp,Op.intDiv,ne_eq,not_true_eq_false,al0,av,ai5]
   ·cases h
  ·cases h
 ·rename_i t x k n yt ai
  split at h
  ·rename_i k' u aa
   split at h
   ·rename_i ax
    cases h;subst ax;have U:=aI.aL aa;generalize aD:a.eval x=dy at U;cases U;refine w2 (v := .int k' (u.tmod (aA2 (n+1)))) ai ?_ ?_ (.int _ _)
    ·rfl
    ·rw [aD]
     have av:¬ (aA2 (n+1)=0):=by simp;omega
     simp only [Act.eval,binOp,Op.intDiv,ne_eq,not_true_eq_false,al0,av,ai5]
   ·cases h
  ·cases h
 ·rename_i mY d x ai
  split at h
  ·rename_i G0 fg a2 a3 k gD fp qz al aA
   split at h
   ·rename_i ck n aa
    cases h;obtain ⟨info,d1,U,ad,aj,-⟩:=aP.parts al;obtain ⟨nB,LQ,pO,nC,sv,-⟩:=aP.parts aA;have bT:LQ = .int k:=by cases LQ<;>simp [ec] at sv;rw [sv]
    have aC:=aI.aL aa;generalize aD:a.eval x=dy at aC;cases aC;refine .same (val := .int k (k.wrap n)) ?_ (.int _ _);unfold execOp;rw [ai];refine gb ?_;subst bT;rw [aD];cases d1<;>simp [ec] at aj
    simp [convert,run_underlying ad,run_underlying nC,Conv.intToInt]
   ·cases h
  ·cases h
 ·rename_i args hr ai
  split at h
  ·rename_i x y aE
   have G1:args = #[x,y]:=by apply at';simpa using aE
   subst G1;split at h
   ·rename_i k u k' ga aa ar
    cases h;have U:=aI.aL aa;have ad:=aI.aL ar;generalize dM:a.eval x=dy at U;generalize fj:a.eval y=fX at ad;cases U;cases ad;refine .same (val := .int k (if ga>u then ga else u)) ?_ (.int _ _);unfold execOp;rw [ai];simp only [resolve,invoke,builtin,H1,ai5,i0,au',ai2,aj5,dM,fj,run_max_int2]
   ·cases h
  ·cases h
 ·rename_i args hr ai
  split at h
  ·rename_i x y aE
   have G1:args = #[x,y]:=by apply at';simpa using aE
   subst G1;split at h
   ·rename_i k u k' ga aa ar
    cases h;have U:=aI.aL aa;have ad:=aI.aL ar;generalize dM:a.eval x=dy at U;generalize fj:a.eval y=fX at ad;cases U;cases ad;refine .same (val := .int k (if ga<u then ga else u)) ?_ (.int _ _);unfold execOp;rw [ai];simp only [resolve,invoke,builtin,H1,ai5,i0,au',ai2,aj5,dM,fj,run_min_int2]
   ·cases h
  ·cases h
 ·cases h
omit aI aP in
theorem Vj {o:Oper} {v:ag} (h:w1 Γ o env=some v):gS o=true:=by
 unfold gS;cases ai:o.op<;>first|rfl|(unfold w1 at h;rw [ai] at h;cases h)
omit aP in
theorem Vk {o:Oper} {t yt:TypeId} {x y:Operand} {u v:List UInt8} (ai:o.op = .binOp .add t x y yt) (aa:aL env x=some (.str u)) (ar:aL env y=some (.str v)) (aE:u.length+v.length≤9223372036854775807) :
  gT P o a w p (.str (u++v)):=by
 have U:=aI.aL aa;have ad:=aI.aL ar;generalize dM:a.eval x=dy at U;generalize fj:a.eval y=fX at ad;cases U with|str gD _ bT=>cases ad with|str fp _ bI=>
 refine w2 (v := .string (gD++fp)) ai ?_ ?_ ?_
 ·exact rfl
 ·rw [dM,fj]
  have al:¬ ((gD.size+fp.size:Nat):Int)>IntKind.i64.max:=by
   have fg:gD.size=u.length:=by rw [← bT];simp
   have a2:fp.size=v.length:=by rw [← bI];simp
   have:IntKind.i64.max=9223372036854775807:=by decide
   rw [fg,a2,this];omega
  simp only [binOp,Op.stringOp,f4 al,ai5]
 ·exact .str _ _ (by rw [← bT,← bI];simp [ByteArray.data_append])
theorem Vl {o:Oper} {t e:TypeId} {x y:Operand} {it aJ:bQ} {sz:Nat} {xs:List ag} {own:bM} {k:IntKind} {i:Int} {j:Nat} {v:ag} {cs:List ag} (ai:o.op = .indexAddr t x y)
  (aN:Γ.get? t=some it) (bw:it.bN = .aF e) (bP:Γ.get? e=some aJ) (aa:aL env x=some (.aF sz xs own)) (b6:sz=aJ.size) (ar:aL env y=some (.int k i)) (ft:i=(j:Int)) (aK:xs[j]? = some v)
  (aw:cellsOf v=some cs):gT P o a w p (.bl cs 0):=by
 subst b6;obtain ⟨info,d,U,ad,aj,-⟩:=aP.parts aN;obtain ⟨jv,j0,ck,cL,ev,ee,-⟩:=aP.parts bP;have aA:d = .slice e:=by rw [bw] at aj;cases d<;>simp [ec] at aj;rw [aj]
 subst aA;have aC:=aI.aL aa;have lk:=aI.aL ar;generalize dM:a.eval x=dy at aC;generalize fj:a.eval y=fX at lk;cases lk;subst ft;have yU:j<xs.length:=(ac'.1 aK).1;cases aC with
 | iA=>simp at aK
 | jo=>simp at aK
 | aF g off n cap _ vs _ _ av aE cm hc al hm ax Vm cW=>
 obtain ⟨u,hu,GC⟩:=hc.get aK;have pP:=su GC aw;refine .same (val := .pointer (some ⟨g,off+j*aJ.size,none⟩)) ?_ (.bl g (off+j*aJ.size) _ 0 u.cells.toList cs C ?_ pP)
 ·unfold execOp
  rw [ai];simp only [dM,fj];refine gb ?_;have au:(0:Int)≤(j:Int)∧(j:Int)<(n:Int):=by omega
  simp [Instr.indexAt,asIntOf,run_underlying ad,au.2,sizeOf,typeInfo,ck,ee,lf];intro aV;omega
 ·intro i ga qv
  have:=cm (j*aJ.size+i) ga (Vh al hu i qv);rw [← at1] at this;exact this
theorem Vn {o:Oper} {t:TypeId} {x y:Operand} {it:bQ} {l:List UInt8} {k:IntKind} {i:Int} {j:Nat} {b:UInt8} (ai:o.op = .index t x y)
  (aN:Γ.get? t=some it) (bw:it.bN = .str) (aa:aL env x=some (.str l)) (ar:aL env y=some (.int k i)) (ft:i=(j:Int)) (aK:l[j]? = some b) :
  gT P o a w p (.int .u8 b.toNat):=by
 obtain ⟨info,d,U,ad,aj,-⟩:=aP.parts aN;have aA:d = .string:=by rw [bw] at aj;cases d<;>simp [ec] at aj;rfl
 subst aA;have aC:=aI.aL aa;have lk:=aI.aL ar;generalize dM:a.eval x=dy at aC;generalize fj:a.eval y=fX at lk;cases lk;subst ft;cases aC with
 | str nG _ e=>
 have ay:nG[j]? = some b:=by
  rw [← e] at aK;have:nG.data[j]? = some b:=by simpa using aK
  exact this
 refine .same (val := .int .u8 b.toNat) ?_ (.int _ _);unfold execOp;rw [ai];simp only [dM,fj];refine gb ?_;simp [Instr.index,asIntOf,run_underlying ad,ay]
omit aI aP in
theorem Vo {sz:Nat}:∀ {vs:List Value} (_:∀ v∈vs,v.cells.size=sz) (l:Nat) (i:Nat),l≤vs.length→(flat (vs.drop l))[i]? = (flat vs)[l*sz+i]?:=by
 intro vs
 induction vs with
 | nil=>
  intro _ l i aE;have:l=0:=by simpa using aE
  subst this;simp
 | cons v vs a8=>
  intro al l i aE;cases l with
  | zero=>simp
  | succ l=>
   have aD:=al v (g8 ..);rw [az7,a8 (fun v aD=>al v (f9 _ aD)) l i (by simpa using aE)];simp only [flat,am0];rw [ak0 (by rw [ai8,aD,ao2];omega),ai8,aD];congr 1;rw [ao2];omega
omit aI aP in
theorem Vp {vs:List Value} (h:Nat) {i:Nat} {u:Value} (hu:(flat (vs.take h))[i]? = some u):(flat vs)[i]? = some u:=by
 have:flat vs=flat (vs.take h)++flat (vs.drop h):=by rw [← GS,List.take_append_drop]
 rw [this,ak3 (ac'.1 hu).1];exact hu
theorem Vq {o:Oper} {t e:TypeId} {x:Operand} {eo aQ kQ:Option Operand} {it aJ:bQ} {sz:Nat} {xs:List ag} {own dZ:bM} {l h:Nat} (ai:o.op = .slice t x eo aQ kQ)
  (aN:Γ.get? t=some it) (bw:it.bN = .aF e) (bP:Γ.get? e=some aJ) (aa:aL env x=some (.aF sz xs own)) (b6:xs=[]∨sz=aJ.size)
  (iD:(eo=none∧l=0)∨∃ y k,eo=some y∧aL env y=some (.int k (l:Int))) (tO:(aQ=none∧kQ=none∧h=xs.length)∨∃ y k,aQ=some y∧aL env y=some (.int k (h:Int)))
  (qA:(kQ=none∧dZ = .a7)∨(∃ y k,kQ=some y∧aL env y=some (.int k (h:Int))∧dZ = .clip)) (aE:l≤h) (c4:h≤xs.length):gT P o a w p (.aF sz ((xs.take h).drop l) dZ):=by
 obtain ⟨info,d,U,ad,aj,-⟩:=aP.parts aN;obtain ⟨jv,j0,ck,cL,ev,ee,-⟩:=aP.parts bP;have aA:d = .slice e:=by rw [bw] at aj;cases d<;>simp [ec] at aj;rw [aj]
 subst aA;have nH:∀ b,dZ ≠ .own b:=by rcases qA with ⟨-,rfl⟩|⟨_,_,-,-,rfl⟩<;>simp
 have AU:dZ ≠ .nil:=by rcases qA with ⟨-,rfl⟩|⟨_,_,-,-,rfl⟩<;>simp
 have qB:∀ {y k} {n:Nat},aL env y=some (.int k (n:Int))→a.eval y = .int k (n:Int):=fun he=>by
  have:=aI.aL he;generalize a.eval _=v at this ⊢;cases this;rfl
 have Vr:∀ (cap:Nat),xs.length≤cap→∃ m,(Instr.sliceBounds true xs.length cap (eo.map a.eval) (aQ.map a.eval) (kQ.map a.eval)).run P w = .ok (l,h,m) w∧h≤m∧m≤cap∧(dZ = .clip→m=h):=by
  intro cap kP;have av:∀ n:Nat,(0:Int)≤(n:Int):=fun n=>by omega
  have G2:(l:Int)≤(h:Int):=by omega
  have Ds:(h:Int)≤(cap:Int):=by omega
  rcases qA with ⟨rfl,rfl⟩|⟨ahR,ahY,rfl,eJ,rfl⟩
  ·rcases tO with ⟨rfl,-,rfl⟩|⟨Vs,Vt,rfl,AV⟩
   ·refine ⟨cap,?_,kP,t7 _,by simp⟩
    rcases iD with ⟨rfl,rfl⟩|⟨LR,og,rfl,hs⟩
    ·simp [Instr.sliceBounds]
    ·simp [Instr.sliceBounds,qB hs,run_sliceBound,av,G2]
   ·refine ⟨cap,?_,by omega,t7 _,by simp⟩
    rcases iD with ⟨rfl,rfl⟩|⟨LR,og,rfl,hs⟩
    ·simp [Instr.sliceBounds,qB AV,run_sliceBound,av,Ds]
    ·simp [Instr.sliceBounds,qB AV,qB hs,run_sliceBound,av,G2,Ds]
  ·rcases tO with ⟨-,bn,-⟩|⟨Vs,Vt,rfl,AV⟩
   ·cases bn
   ·refine ⟨h,?_,t7 _,by omega,fun _=>rfl⟩
    rcases iD with ⟨rfl,rfl⟩|⟨LR,og,rfl,hs⟩
    ·simp [Instr.sliceBounds,qB AV,qB eJ,run_sliceBound,av,Ds]
    ·simp [Instr.sliceBounds,qB AV,qB hs,qB eJ,run_sliceBound,av,G2,Ds]
 have ef:∀ base cap val,a.eval x = .slice base xs.length cap→xs.length≤cap→(∀ m,h≤m→m≤cap→(dZ = .clip→m=h)→Rel w p (.slice (if m=l then base else base.map (·.add (l*aJ.size))) (h-l) (m-l)) val)→gT P o a w p val:=by
  intro base cap val dM kP eG;obtain ⟨m,aq,sE,yV,Vu⟩:=Vr cap kP;refine .same ?_ (eG m sE yV Vu);unfold execOp;rw [ai];simp only [dM];refine gb ?_;simp only [Instr.sliceAt,Instr.slice,H1,run_underlying ad,i0,aq,sizeOf,typeInfo,run_program,ck,ai5,ee]
 have aC:=aI.aL aa;generalize dM:a.eval x=dy at aC;cases aC with
 | iA _ _ _=>
  refine ef none 0 _ dM (t7 _) (fun m U ad aj=>?_);have bT:h=0:=by simpa using c4
  have bI:l=0:=by omega
  have eh:m=0:=by omega
  subst bT;subst bI;subst eh;simp only [ak2,aH3,aH4];exact .iA _ _ nH
 | jo a _ _ _=>
  refine ef (some a) 0 _ dM (t7 _) (fun m U ad aj=>?_);have bT:h=0:=by simpa using c4
  have bI:l=0:=by omega
  have eh:m=0:=by omega
  subst bT;subst bI;subst eh;simp only [ak2,aH3,aH4];refine .jo a _ _ ?_;cases dZ with
  | a7=>exact .inl C
  | clip=>exact .inr C
  | nil=>exact absurd C AU
  | own b=>exact absurd C (nH b)
 | aF g off n cap _ vs _ _ av mh cm hc al hm ax Vm cW=>
  subst mh;refine ef _ cap _ dM ax (fun m U ad aj=>?_);have hlen:h-l=((xs.take h).drop l).length:=by simp;omega
  have gm:=hc.length;have Vv:∃ Dt,(if m=l then (some ⟨g,off,none⟩:Option Addr) else (some ⟨g,off,none⟩:Option Addr).map (·.add (l*aJ.size)))=some ⟨g,Dt,none⟩∧(m≠l→Dt=off+l*aJ.size):=by
   by_cases e:m=l
   ·exact ⟨off,by simp [e],fun h=>absurd e h⟩
   ·exact ⟨off+l*aJ.size,by simp [e,lf],fun _=>rfl⟩
  obtain ⟨Dt,Vw,Vx⟩:=Vv;rw [Vw];refine .aF g Dt _ _ sz ((vs.take h).drop l) _ dZ AU hlen ?_ ((hc.take h).drop l) (fun v aD=>al v (au4 (List.mem_of_mem_drop aD))) ak ak (fun aw=>by have:=aj aw;omega) (fun b aq=>absurd aq (nH b));intro i u hu;by_cases e:m=l
  ·have:(vs.take h).drop l=[]:=by apply List.drop_eq_nil_of_le;rw [ah'];omega
   rw [this] at hu;simp [flat] at hu
  ·rw [Vx e]
   have wX:∀ v∈vs.take h,v.cells.size=aJ.size:=by
    rcases b6 with rfl|rfl
    ·have:vs=[]:=ak7 (by rw [gm];rfl)
     subst this;simp
    ·exact fun v aD=>al v (au4 aD)
   rw [Vo wX l i wE] at hu;have:=cm _ _ (Vp h hu);rw [← at1] at this;exact this
end
def qC (l:List UInt8):List ag:=l.map fun b => .int .u8 b.toNat
theorem LS (l:List UInt8):(qC l).length=l.length:=by simp [qC]
theorem LU {w:World} {p:bV}:∀ (l:List UInt8),b4 w p (l.map fun b=>Value.int .u8 b.toNat) (qC l)
 | [] => .nil
 | b::l => .cons _ _ _ _ (.int _ _) (LU l)
theorem LV {w:World} {p:bV}:∀ {l:List UInt8} {vs:List Value},b4 w p vs (qC l)→vs=l.map fun b=>Value.int .u8 b.toNat
  | [],_,h=>by cases h;rfl
  | b::l,_,h=>by
    cases h with|cons v _ vs _ U ad=>
    cases U;rw [LV ad];rfl
section
variable {P:Program} {Γ:cz} (aP:bX P Γ) {N:Nat} {B:fP} {ro:Option Nat} {env:Env} {s:ao} {a:Act} {w:World} {p:bV} (aI:dx N B ro env s a w p)
include aI aP
omit aI aP in
theorem LW:∀ (l:List UInt8),flat (l.map fun b=>Value.int .u8 b.toNat)=l.map fun b=>Value.int .u8 b.toNat:=by
 intro l
 induction l with
 | nil=>rfl
 | cons b l a8=>simp only [flat,ai2,am0,Value.cells] at a8 ⊢;rw [a8];rfl
theorem Vy {o:Oper} {mY d e:TypeId} {x:Operand} {is id aJ:bQ} {sz:Nat} {l:List UInt8} {own:bM} (ai:o.op = .convert mY d x) (al:Γ.get? mY=some is) (aA:Γ.get? d=some id) (oh:is.bN = .aF e) (ru:id.bN = .str)
  (he:Γ.get? e=some aJ) (tP:aJ.bN = .int .u8) (aa:aL env x=some (.aF sz (qC l) own)):gT P o a w p (.str l):=by
 obtain ⟨i1,d1,fg,a2,a3,-⟩:=aP.parts al;obtain ⟨i2,d2,gD,fp,qz,-⟩:=aP.parts aA;obtain ⟨i3,d3,cx,cE,dz,-⟩:=aP.parts he;have bT:d1 = .slice e:=by rw [oh] at a3;cases d1<;>simp [ec] at a3;rw [a3]
 have bI:d2 = .string:=by rw [ru] at qz;cases d2<;>simp [ec] at qz;rfl
 have eh:d3 = .int .u8:=by rw [tP] at dz;cases d3<;>simp [ec] at dz;rw [dz]
 subst bT;subst bI;subst eh;have ef:∀ v,(convert mY d (a.eval x)).run P w = .ok v w→(execOp a.eval o).run P w = .ok (.value v) w:=fun v h=>by
  unfold execOp;rw [ai];exact gb h
 have aC:=aI.aL aa;generalize aD:a.eval x=dy at aC ef;generalize jL:qC l=Du at aC;cases aC with
 | iA=>
  have aE:l=[]:=by cases l with|nil=>rfl|cons b l=>simp [qC] at jL
  subst aE;refine .same (val := .string ByteArray.empty) (ef _ ?_) (.str _ _ C);rw [run_convert_bytes_string w mY d e none 0 0 a2 cE fp];rfl
 | jo dm _ _ _=>
  have aE:l=[]:=by cases l with|nil=>rfl|cons b l=>simp [qC] at jL
  subst aE;exact .same (val := .string ⟨#[]⟩) (ef _ (run_convert_bytes_back w mY d e dm 0 [] a2 cE fp (fun j aK=>by simp at aK))) (.str _ _ C)
 | aF g off n cap _ vs _ _ av aE aw hc b6 hm ax cm cW=>
  subst jL;have gE:=LV hc;subst gE;rw [LS] at aE;subst aE;refine .same (val := .string ⟨l.toArray⟩) (ef _ ?_) (.str _ _ bc);refine run_convert_bytes_back w mY d e ⟨g,off,none⟩ cap l a2 cE fp (fun j aK=>?_);rw [lf];refine (aw j _ ?_).2;rw [LW];simp [List.getElem?_eq_getElem aK]
theorem Vz {o:Oper} {mY d e:TypeId} {x:Operand} {is id aJ:bQ} {l:List UInt8} (ai:o.op = .convert mY d x) (al:Γ.get? mY=some is) (aA:Γ.get? d=some id) (oh:is.bN = .str) (ru:id.bN = .aF e)
  (he:Γ.get? e=some aJ) (tP:aJ.bN = .int .u8) (aa:aL env x=some (.str l)) (VA:l.length≤9223372036854775807):gT P o a w p (.aF 1 (qC l) .a7):=by
 obtain ⟨i1,d1,fg,a2,a3,-⟩:=aP.parts al;obtain ⟨i2,d2,gD,fp,qz,-⟩:=aP.parts aA;obtain ⟨i3,d3,cx,cE,dz,-⟩:=aP.parts he;have bT:d1 = .string:=by rw [oh] at a3;cases d1<;>simp [ec] at a3;rfl
 have bI:d2 = .slice e:=by rw [ru] at qz;cases d2<;>simp [ec] at qz;rw [qz]
 have eh:d3 = .int .u8:=by rw [tP] at dz;cases d3<;>simp [ec] at dz;rw [dz]
 subst bT;subst bI;subst eh;have aC:=aI.aL aa;generalize aD:a.eval x=dy at aC;cases aC with
 | str nG _ w3=>
 have b6:nG.size=l.length:=by rw [← w3];simp
 have cI:=run_bytes_of_string (P:=P) w mY d e nG a2 fp cE;generalize kP:grownCap w nG.size 0 e=cap at cI;have oe:nG.size≤cap:=by rw [← kP];simp [grownCap,Question.cut]
 have Dv:(bytesRow nG cap).toList=(l.map fun b=>Value.int .u8 b.toNat)++ai0 (cap-nG.size) (.int .u8 0):=by
  simp [bytesRow,← w3]
 generalize VB:Obj.cells (bytesRow nG cap) e ((bytesRow nG cap).size,(bytesRow nG cap).size+1)=d' at cI;have hle:c2 w p (w.drew.alloc d') (p.dT w.heap.size True):=c2.trans lb (u3 (w:=w.drew) (fun b o h=>aI.wf.lt b o h) d' True);refine ⟨.slice (some ⟨w.heap.size,0,none⟩) nG.size cap,_,_,?_,?_,hle,fun an gU=>⟨?_,?_⟩⟩
 ·unfold execOp
  rw [ai];simp only [aD];exact gb cI
 ·refine .aF w.heap.size 0 _ cap 1 (l.map fun b=>Value.int .u8 b.toNat) (qC l) .a7 bc (by rw [LS,b6]) ?_ (LU l) (by simp [Value.cells]) ak oe bc bc
  rw [LW];intro i v LX;refine ⟨.inr ⟨rfl,trivial⟩,?_⟩;have c4:(w.drew.alloc d').heap[w.heap.size]? = some d':=ss w.drew d';rw [← VB] at c4 ⊢;simp only [World.cell?,c4,aD8,aj2,al0,aj8];have:(bytesRow nG cap).toList[i]? = some v:=by
   rw [Dv,ak3 (ac'.1 LX).1];exact LX
  simpa using this
 ·exact Kept.trans (s₁:=an) (w₁:=w.drew) (p₁:=p) (t7 _) wK (C3 (w:=w.drew) d' True)
 ·exact AE (w:=w.drew) (yK gU) d' True
end
inductive mi (Γ:cz) (o:Oper) (env:Env):ag→Prop
 | a {v:ag} (h:sw Γ o env=some v):mi Γ o env v
 | x {v:ag} (h:w1 Γ o env=some v):mi Γ o env v
 | cat {t yt:TypeId} {x y:Operand} {u v:List UInt8} (ai:o.op = .binOp .add t x y yt) (aa:aL env x=some (.str u)) (ar:aL env y=some (.str v)) (aE:u.length+v.length≤9223372036854775807):mi Γ o env (.str (u++v))
 | toStr {mY d e:TypeId} {x:Operand} {is id aJ:bQ} {sz:Nat} {l:List UInt8} {own:bM} (ai:o.op = .convert mY d x) (al:Γ.get? mY=some is) (aA:Γ.get? d=some id) (oh:is.bN = .aF e) (ru:id.bN = .str)
   (he:Γ.get? e=some aJ) (tP:aJ.bN = .int .u8) (aa:aL env x=some (.aF sz (qC l) own)):mi Γ o env (.str l)
 | LY {mY d e:TypeId} {x:Operand} {is id aJ:bQ} {l:List UInt8} (ai:o.op = .convert mY d x) (al:Γ.get? mY=some is) (aA:Γ.get? d=some id) (oh:is.bN = .str) (ru:id.bN = .aF e)
   (he:Γ.get? e=some aJ) (tP:aJ.bN = .int .u8) (aa:aL env x=some (.str l)) (VA:l.length≤9223372036854775807):mi Γ o env (.aF 1 (qC l) .a7)
 | idx {t e:TypeId} {x y:Operand} {it aJ:bQ} {sz:Nat} {xs:List ag} {own:bM} {k:IntKind} {i:Int} (j:Nat) {v:ag} {cs:List ag} (ai:o.op = .indexAddr t x y)
   (aN:Γ.get? t=some it) (bw:it.bN = .aF e) (bP:Γ.get? e=some aJ) (aa:aL env x=some (.aF sz xs own)) (b6:sz=aJ.size) (ar:aL env y=some (.int k i)) (ft:i=(j:Int)) (aK:xs[j]? = some v)
   (aw:cellsOf v=some cs):mi Γ o env (.bl cs 0)
 | AW {t:TypeId} {x y:Operand} {it:bQ} {l:List UInt8} {k:IntKind} {i:Int} (j:Nat) {b:UInt8} (ai:o.op = .index t x y)
   (aN:Γ.get? t=some it) (bw:it.bN = .str) (aa:aL env x=some (.str l)) (ar:aL env y=some (.int k i)) (ft:i=(j:Int)) (aK:l[j]? = some b):mi Γ o env (.int .u8 b.toNat)
 | slice {t e:TypeId} {x:Operand} {eo aQ kQ:Option Operand} {it aJ:bQ} {sz:Nat} {xs:List ag} {own dZ:bM} (l h:Nat) (ai:o.op = .slice t x eo aQ kQ)
   (aN:Γ.get? t=some it) (bw:it.bN = .aF e) (bP:Γ.get? e=some aJ) (aa:aL env x=some (.aF sz xs own)) (b6:xs=[]∨sz=aJ.size)
   (iD:(eo=none∧l=0)∨∃ y k,eo=some y∧aL env y=some (.int k (l:Int))) (tO:(aQ=none∧kQ=none∧h=xs.length)∨∃ y k,aQ=some y∧aL env y=some (.int k (h:Int)))
   (qA:(kQ=none∧dZ = .a7)∨(∃ y k,kQ=some y∧aL env y=some (.int k (h:Int))∧dZ = .clip)) (aE:l≤h) (c4:h≤xs.length):mi Γ o env (.aF sz ((xs.take h).drop l) dZ)
theorem mi.ok {P:Program} {Γ:cz} (aP:bX P Γ) {N:Nat} {B:fP} {ro:Option Nat} {env:Env} {s:ao} {a:Act} {w:World} {p:bV} (aI:dx N B ro env s a w p) {o:Oper} {v:ag} (h:mi Γ o env v):gT P o a w p v:=by
 cases h with
 | a h=>exact LI aP aI h
 | x h=>exact Vi aP aI h
 | cat ai aa ar aE=>exact Vk aI ai aa ar aE
 | toStr ai al aA oh ru he tP aa=>exact Vy aP aI ai al aA oh ru he tP aa
 | LY ai al aA oh ru he tP aa aE=>exact Vz aP aI ai al aA oh ru he tP aa aE
 | idx j ai aN bw bP aa b6 ar ft aK aw=>exact Vl aP aI ai aN bw bP aa b6 ar ft aK aw
 | AW j ai aN bw aa ar ft aK=>exact Vn aP aI ai aN bw aa ar ft aK
 | slice l h ai aN bw bP aa b6 iD tO qA aE c4=>exact Vq aP aI ai aN bw bP aa b6 iD tO qA aE c4
theorem mi.gS {Γ:cz} {env:Env} {o:Oper} {v:ag} (h:mi Γ o env v):Go.Proofs.YtimbpjfhekcofaaGreat.gS o=true:=by
 cases h with
 | a h=>exact LJ h
 | x h=>exact Vj h
 | cat ai=>simp [Go.Proofs.YtimbpjfhekcofaaGreat.gS,ai]
 | toStr ai=>simp [Go.Proofs.YtimbpjfhekcofaaGreat.gS,ai]
 | LY ai=>simp [Go.Proofs.YtimbpjfhekcofaaGreat.gS,ai]
 | idx j ai=>simp [Go.Proofs.YtimbpjfhekcofaaGreat.gS,ai]
 | AW j ai=>simp [Go.Proofs.YtimbpjfhekcofaaGreat.gS,ai]
 | slice l h ai=>simp [Go.Proofs.YtimbpjfhekcofaaGreat.gS,ai]
theorem aX.pure {P:Program} {Γ:cz} (aP:bX P Γ) {N:Nat} {env:Env} {s:ao} {o:Oper} {v:ag} (h:mi Γ o env v):aX P N o env s (fun x an=>x=v∧an=s) (fun _ _=>False):=
 aX.mR h.gS fun _ _ _ _ _ aI=>h.ok aP aI
def sF:Nat→List ag→Env
 | _,[]=>[]
 | k,v::vs=>(k,v)::sF (k+1) vs
def yW (Γ:cz) (env:Env) (s:ao):ResultVar→Option ag
  | .tmp t=>env.get? t
  | .cell a t=>match env.get? a,Γ.get? t with
    | some (.ptr b o),some i=>match s b with
      | some (.box _ cs)=>hB i cs o
      | _=>none
    | some (.bl cs o),some i=>hB i cs o
    | _,_=>none
def vb (Γ:cz) (env:Env) (s:ao):List ResultVar→Option (List ag)
  | []=>some []
  | r::rs=>match yW Γ env s r with
    | some v=>match vb Γ env s rs with
      | some vs=>some (v::vs)
      | none=>none
    | none=>none
def nI (Γ:cz) (env:Env) (s:ao) (rs:List ResultVar):Option ag:=
 match vb Γ env s rs with
 | some [v]=>some v
 | some vs=>some (.bW vs)
 | none=>none
section
variable {P:Program} {Γ:cz}
theorem VC (aP:bX P Γ) {N:Nat} {B:fP} {ro:Option Nat} {env:Env} {s:ao} {a:Act} {w w':World} {p:bV} (aI:dx N B ro env s a w p)
  (hw:∀ b o v,w.cell? ⟨b,o,none⟩=some v→w'.cell? ⟨b,o,none⟩=some v) (kN:∀ v x,Rel w p v x→Rel w' p v x) {r:ResultVar} {v:ag} (h:yW Γ env s r=some v) :
  ∃ val,((match r with
   | .tmp t=>pure (a.tmps.getD t undef)
   | .cell b t=>do loadVar t (← asAddr (a.tmps.getD b undef))):Sem Value).run P w' = .ok val w'∧Rel w' p val v:=by
 cases r with
 | tmp t=>exact ⟨_,rfl,kN _ _ (aI.env t v h)⟩
 | cell b t=>
  simp only [yW] at h;split at h
  ·rename_i aW o i aq aQ
   split at h
   ·rename_i T cs al
    have aC:=aI.env b _ aq;generalize aD:a.tmps.getD b undef=Dq at aC;cases aC;obtain ⟨vs,U,ad,aj⟩:=aI.wf.obj _ _ al;have hc:b4 w' p vs.toList cs:=by
     have:∀ us xs,b4 w p us xs→b4 w' p us xs:=by
      intro us
      induction us with
      | nil=>intro xs h;cases h;exact .nil
      | cons u us a8=>intro xs h;cases h with|cons _ x _ xs aa aN=>exact .cons _ _ _ _ (kN _ _ aa) (a8 _ aN)
     exact this _ _ ad
    obtain ⟨val,cI,eG⟩:=AH aP aQ (b:=aW) (base:=0) (vs:=vs.toList) (w:=w') (fun j u hu=>by
     rw [aj8];refine hw _ _ _ ?_;rw [jN U];simpa using hu) hc h
    rw [aj8] at cI;exact ⟨val,by simp only [aD,asAddr,H1,ai5,i0,cI],eG⟩
   ·cases h
  ·rename_i cs o i aq aQ
   have aC:=kN _ _ (aI.env b _ aq);generalize aD:a.tmps.getD b undef=Dq at aC;cases aC with
   | bl nG base yN _ vs _ Da aw hc=>
   subst Da;obtain ⟨val,cI,eG⟩:=AH aP aQ (b:=nG) (base:=base) (fun j u hu=>(aw j u hu).2) hc h;exact ⟨val,by simp only [aD,asAddr,H1,ai5,i0,cI],eG⟩
  ·cases h
theorem VD (aP:bX P Γ) {N:Nat} {B:fP} {ro:Option Nat} {env:Env} {s:ao} {a:Act} {w w':World} {p:bV} (aI:dx N B ro env s a w p)
  (hw:∀ b o v,w.cell? ⟨b,o,none⟩=some v→w'.cell? ⟨b,o,none⟩=some v) (kN:∀ v x,Rel w p v x→Rel w' p v x):∀ {rs:List ResultVar} {xs:List ag} (_:vb Γ env s rs=some xs),
  ∃ mj,(rs.mapM fun r=>((match r with
   | .tmp t=>pure (a.tmps.getD t undef)
   | .cell b t=>do loadVar t (← asAddr (a.tmps.getD b undef))):Sem Value)).run P w' = .ok mj w'∧b4 w' p mj xs:=by
 intro rs
 induction rs with
 | nil=>intro xs h;cases h;exact ⟨[],by simp,.nil⟩
 | cons r rs a8=>
  intro xs h;simp only [vb] at h;split at h
  ·rename_i v aD
   split at h
   ·rename_i vs gE
    cases h;obtain ⟨val,U,ad⟩:=VC aP aI hw kN aD;obtain ⟨mj,aj,bk⟩:=a8 gE;exact ⟨val::mj,by simp only [aC4,H1,U,i0,aj,ai5],.cons _ _ _ _ ad bk⟩
   ·cases h
  ·cases h
theorem VE (aP:bX P Γ) {N:Nat} {B:fP} {ro:Option Nat} {env:Env} {s:ao} {a:Act} {w w':World} {p:bV} (aI:dx N B ro env s a w p)
  (hw:∀ b o v,w.cell? ⟨b,o,none⟩=some v→w'.cell? ⟨b,o,none⟩=some v) (kN:∀ v x,Rel w p v x→Rel w' p v x) {fn:Func} {v:ag} (h:nI Γ env s fn.results.toList=some v) :
  ∃ val,(results fn a.tmps).run P w' = .ok val w'∧Rel w' p val v:=by
 unfold nI at h;have key:∀ xs,vb Γ env s fn.results.toList=some xs→∃ mj,(results fn a.tmps).run P w' = .ok (if h:mj.length=1 then mj[0] else .tuple mj.toArray) w'∧b4 w' p mj xs:=by
  intro xs fi;obtain ⟨mj,U,ad⟩:=VD aP aI hw kN fi;refine ⟨mj,?_,ad⟩;unfold results;rw [Array.mapM_eq_mapM_toList];simp only [H1,Sem.run_map];erw [U];simp only [i0,ai5];by_cases aE:mj.length=1
  ·simp [aE]
  ·simp [aE]
 split at h
 ·rename_i ga aD
  cases h;obtain ⟨mj,U,ad⟩:=key _ aD;cases ad with
  | cons u _ us _ hu aN=>cases aN;exact ⟨u,by simpa using U,hu⟩
 ·rename_i vs cN aD
  cases h;obtain ⟨mj,U,ad⟩:=key _ aD;have aE:mj.length≠1:=by
   rw [ad.length];intro aE;obtain ⟨x,aa⟩:=List.length_eq_one_iff.1 aE;exact cN x aa
  rw [dif_neg aE] at U;exact ⟨_,U,.bW _ _ (by simpa using ad)⟩
 ·cases h
theorem G3 {s:ao} {p:bV}:∀ (cb:List Nat) (w:World),dn w p s→(∀ d∈cb,∃ x,w.heap[d]? = some (.deferred x)) →
    c2 w p (hy w cb) p∧dn (hy w cb) p s∧(∀ b,b∉cb→(hy w cb).heap[b]? = w.heap[b]?)∧(∀ b o v,w.cell? ⟨b,o,none⟩=some v→(hy w cb).cell? ⟨b,o,none⟩=some v):=by
  intro cb
  induction cb with
  | nil=>intro w ca _;exact ⟨.refl w p,ca,fun _ _=>rfl,fun _ _ _ h=>h⟩
  | cons d cb a8=>
    intro w ca aA;obtain ⟨x,aa⟩:=aA d (g8 ..);have au:d<w.heap.size:=(t6.1 aa).1
    let w₁:World:={ w with heap:=w.heap.setIfInBounds d (.deferred none) }
    have mU:w₁.heap[d]? = some (.deferred none):=by simp [w₁,aj9,au]
    have gM:∀ k,k≠d→w₁.heap[k]? = w.heap[k]? := fun k ax=>by
      show (w.heap.setIfInBounds d (.deferred none))[k]? = _;rw [aj9,f4 (fun e=>ax e.symm)]
    have ky:∀ b o,w₁.cell? ⟨b,o,none⟩=w.cell? ⟨b,o,none⟩:=fun b o=>by
      by_cases e:b=d
      · subst e;simp only [World.cell?,mU,aa]
      · exact wJ (gM b e)
    have hle:c2 w p w₁ p:=⟨rfl,rfl,rfl,by simp [w₁],fun _ _ h=>h,fun b o _=>ky b o,fun b y ar=>by
      by_cases e:b=d
      · subst e;simp [World.kM,aa] at ar
      · rw [wI (gM b e)];exact ar⟩
    have VF:dn w₁ p s:=by
      refine ⟨fun b o aq=>?_,fun b o aB=>by simpa [w₁] using ca.lt b o aB⟩;have ai:=ca.obj b o aq;have cN:b≠d:=by
        intro e;subst e;cases o with
        | box t c=>obtain ⟨us,g1,-⟩:=ai;rw [aa] at g1;cases g1
        | row t sz n=>obtain ⟨us,g1,-⟩:=ai;rw [aa] at g1;cases g1
        | map es=>obtain ⟨us,c,g1,-⟩:=ai;rw [aa] at g1;cases g1
        | hz es it l c=>obtain ⟨_,_,_,g1,-⟩:=ai;rw [aa] at g1;cases g1
        | tick m=>obtain ⟨_,_,_,g1⟩:=ai;rw [aa] at g1;cases g1
        | loop r env=>have cW:=ai.1;rw [aa] at cW;cases cW
      have c4:=gM b cN;cases o with
      | box t c=>obtain ⟨us,g1,g2,g3⟩:=ai;exact ⟨us,c4.trans g1,g2.mono hle,g3⟩
      | row t sz n=>obtain ⟨cur,g1,g2,g3,g4⟩:=ai;exact ⟨cur,c4.trans g1,g2,g3,g4⟩
      | map es=>obtain ⟨cr,c,g1,g2,g3⟩:=ai;exact ⟨cr,c,c4.trans g1,⟨g2.1.mono hle,g2.2.mono hle⟩,g3⟩
      | hz es it l c=>exact ai.qt hle c4 (gM it (ai.AB aa bc))
      | tick m=>obtain ⟨fg,a2,a3,g1⟩:=ai;exact ⟨fg,a2,a3,c4.trans g1⟩
      | loop r env=>exact ⟨c4.trans ai.1,fun t v h=>(ai.2 t v h).mono hle⟩
    obtain ⟨i1,i2,i3,i4⟩:=a8 w₁ VF (fun db cH=>by
      by_cases e:db=d
      · subst e;exact ⟨none,mU⟩
      · obtain ⟨y,ar⟩:=aA db (f9 _ cH);exact ⟨y,(gM db e).trans ar⟩)
    refine ⟨hle.trans i1,i2,fun b aq=>?_,fun b o v aD=>i4 b o v ((ky b o).trans aD)⟩;have U:b≠d:=fun e=>aq (e ▸ g8 ..)
    have ad:b∉cb:=fun e=>aq (f9 _ e)
    exact (i3 b ad).trans (gM b U)
def Fin (Γ:cz) (rs:List ResultVar) (R:eS→ao→Prop):b8→Env→ao→Prop
 | .normal,env,s | .ret,env,s=>∃ r r' an,nI Γ env s rs=some r∧aR r r'∧ao.Sub an s∧R (.ret r') an
 | .panic v,_,s=>∃ ga an,aR v ga∧ao.Sub an s∧R (.panic ga) an
 | .exit _,_,_=>False
theorem VG {w:World} {p:bV}:∀ (k:Nat) (args:List ag) (vs pre:List Value),pre.length=k→b4 w p vs args→∀ t v,(sF k args).get? t=some v→∃ u,(pre++vs)[t]? = some u∧Rel w p u v:=by
 intro k args
 induction args generalizing k with
 | nil=>intro vs pre _ _ t v h;simp [sF,Env.get?] at h
 | cons x xs a8=>
  intro vs pre ax aC t v h;cases aC with
  | cons u _ us _ hu aN=>
  simp only [sF,Env.get?] at h;split at h
  ·rename_i he
   have:=ai3 he;subst this;cases h;exact ⟨u,by rw [ak0 ak];simp [ax],hu⟩
  ·obtain ⟨ke,U,ad⟩:=a8 (k+1) us (pre++[u]) (by simp [ax]) aN t v h
   exact ⟨ke,by simpa using U,ad⟩
theorem Kept.sub {s an eM:ao} {w w':World} {p bg:bV} (h:Kept s an w p w' bg) (al:ao.Sub eM an):Kept s eM w p w' bg :=
 ⟨h.heap,fun b aq av=>al.none (h.la b aq av),h.lG⟩
theorem hX.yX (aP:bX P Γ) {f:FuncId} {fn:Func} {c:Code} {args:List ag} {s:ao} {R:eS→ao→Prop} (aw:rr P f) (aZ:P.funcs[f]? = some fn) (aq:fn.body=some c)
  (a1:ar4 args.length fn.ntmps=true) (h:af P fn.ntmps c (Fin Γ fn.results.toList R) (sF 0 args) s):hX P f args s R:=by
 refine ⟨aw,fun w p vs ca gE=>Uk aZ aq fun b sn eL=>?_⟩;have hle:=as6 a1;have aE:=gE.length;have b6:(vs.toArray++ao' (fn.ntmps-vs.toArray.size) undef).size=fn.ntmps:=by simp;omega
 have aI:dx fn.ntmps (w.heap.size,[]) b.roundOf (sF 0 args) s { tmps:=vs.toArray++ao' (fn.ntmps-vs.toArray.size) undef,defers:=[] } w p:=by
  refine ⟨b6,fun t v aD=>?_,ca,⟨[],rfl,by simp,by simp⟩,fun l aE=>(by rw [sn] at aE;cases aE),t7 _⟩;obtain ⟨u,hu,aC⟩:=VG 0 args vs [] rfl gE t v aD;simp only [d0] at hu;have au:=(ac'.1 hu).1;have:(vs.toArray++ao' (fn.ntmps-vs.toArray.size) undef).getD t undef=u:=by
   rw [ak1,aw7 (by simpa using au)];simp [hu]
  rw [this];exact aC
 refine mN (h b (w.heap.size,[]) _ w p eL aI) ?_;rintro e dm w' ⟨x,e5,an,bg,aa,bf,iM,AX,ax⟩;obtain ⟨cb,tQ,eK,fI⟩:=iM.defs;rw [List.append_nil] at tQ;obtain ⟨bT,bI,eh,mc⟩:=G3 cb w' iM.wf (fun d aA=>⟨_,(fI d aA).2.1⟩);have bC:Kept s an w p (hy w' cb) bg:=⟨fun aW dH av=>(eh aW (fun hm=>by have:=(fI aW hm).1;omega)).trans (ax.heap aW dH av),ax.la,ax.lG⟩;have bE:c2 w p (hy w' cb) bg:=AX.trans bT;have fin:(∃ r r' eM,nI Γ e5 an fn.results.toList=some r∧aR r r'∧ao.Sub eM an∧R (.ret r') eM) →
   ∃ cb,dm.defers=marksOf cb∧cb.Nodup∧(∀ d∈cb,w'.heap[d]? = some (.deferred (some [])))∧∃ v,(results fn dm.tmps).run P (hy w' cb) = .ok v (hy w' cb)∧wZ s w p R (.returned v) (hy w' cb):=by
  rintro ⟨r,r',eM,aC,yY,gC,e4⟩;obtain ⟨val,cI,eG⟩:=VE aP iM mc (fun v x h=>h.mono bT) aC;exact ⟨cb,tQ,eK,fun d aA=>(fI d aA).2.1,val,cI,.ret r',eM,bg,yY _ _ _ eG,e4,bE,bC.sub gC,bI.sub gC⟩
 cases aa with
 | normal=>exact fin bf
 | ret=>exact fin bf
 | exit id=>exact bf.elim
 | panic v x dC jr aD=>
  obtain ⟨ga,eM,yY,gC,e4⟩:=bf;exact ⟨cb,tQ,eK,fun d aA=>(fI d aA).2.1,.panic ga,eM,bg,⟨v,jr,yY _ _ _ (aD.mono bT)⟩,e4,bE,bC.sub gC,bI.sub gC⟩
end
def ab (P:Program) (N:Nat) (ops:Array Oper) (l:List Oper) (Q:b8→Env→ao→Prop) (env:Env) (s:ao):Prop:=
 ∀ k,(∀ j x,l[j]? = some x→ops[k+j]? = some x)→jb P N ops (aE' k l.length) Q env s
section
variable {P:Program} {Γ:cz} {N:Nat} {ops:Array Oper} {Q:b8→Env→ao→Prop} {env:Env} {s:ao} {l:List Oper} {o:Oper} {d:Nat}
theorem af.cv {id:Nat} {l:List Oper} (h:ab P N l.toArray l Q env s):af P N (.region id l.toArray false) Q env s:=by
 refine af.region ?_;have:=h 0 bc;rw [List.range_eq_range'];simpa using this
theorem ab.nil (h:Q .normal env s):ab P N ops [] Q env s:=fun _ _=>jb.nil h
theorem ab.cons (h:∀ k,ops[k]? = some o→ab P N ops l Q env s∨True→(∀ j x,l[j]? = some x→ops[k+1+j]? = some x)→jb P N ops (k::aE' (k+1) l.length) Q env s):ab P N ops (o::l) Q env s:=by
 intro k ax;have bn:ops[k]? = some o:=ax 0 o C;have aN:∀ j x,l[j]? = some x→ops[k+1+j]? = some x:=fun j x aa=>by have:=ax (j+1) x uY;simpa [at1,as9 1 j] using this
 rw [i9,aF7];exact h k bn (.inr trivial) aN
theorem ab.op {K X:ag→ao→Prop} (ay:guardOf ops env o=some true) (aA:o.dst=some d) (a1:af' d N=true) (h:aX P N o env s K X)
  (ax:∀ x an,K x an→ab P N ops l Q ((d,x)::env) an) (aa:∀ x an,X x an→Q (.panic x) env an):ab P N ops (o::l) Q env s:=
 ab.cons fun k bn _ aN=>jb.op bn ay aA a1 h (fun x an bC=>ax x an bC (k+1) aN) aa
theorem ab.yJ {K X:ag→ao→Prop} (ay:guardOf ops env o=some true) (aA:o.dst=none) (h:aX P N o env s K X)
  (ax:∀ x an,K x an→ab P N ops l Q env an) (aa:∀ x an,X x an→Q (.panic x) env an):ab P N ops (o::l) Q env s:=
 ab.cons fun k bn _ aN=>jb.yJ bn ay aA h (fun x an bC=>ax x an bC (k+1) aN) aa
theorem ab.skip (ay:guardOf ops env o=some false) (aA:o.dst=some d) (a1:af' d N=true) (h:ab P N ops l Q ((d,.bW [])::env) s):ab P N ops (o::l) Q env s:=
 ab.cons fun k bn _ aN=>jb.skip bn ay aA a1 (h (k+1) aN)
theorem ab.step (aP:bX P Γ) {v:ag} (ay:guardOf ops env o=some true) (aA:o.dst=some d) (a1:af' d N=true) (aD:sw Γ o env=some v) (h:ab P N ops l Q ((d,v)::env) s) :
  ab P N ops (o::l) Q env s:=
 ab.op ay aA a1 (aX.sw aP aD) (fun x an ⟨U,ad⟩=>by subst U;subst ad;exact h) (fun _ _ h=>h.elim)
theorem ab.pure (aP:bX P Γ) {v:ag} (ay:guardOf ops env o=some true) (aA:o.dst=some d) (a1:af' d N=true) (aD:mi Γ o env v) (h:ab P N ops l Q ((d,v)::env) s) :
  ab P N ops (o::l) Q env s:=
 ab.op ay aA a1 (aX.pure aP aD) (fun x an ⟨U,ad⟩=>by subst U;subst ad;exact h) (fun _ _ h=>h.elim)
theorem ab.je (aP:bX P Γ) {v:ag} (ay:guardOf ops env o=some true) (aA:o.dst=some d) (a1:af' d N=true) (aD:w1 Γ o env=some v) (h:ab P N ops l Q ((d,v)::env) s) :
  ab P N ops (o::l) Q env s:=ab.pure aP ay aA a1 (.x aD) h
theorem ab.call {f:FuncId} {as:Array Operand} {cP:Array TypeId} {xs:List ag} {R:eS→ao→Prop} (ay:guardOf ops env o=some true) (aA:o.dst=some d) (a1:af' d N=true)
  (cG:o.op = .call { callee := .value (.func f),args:=as,argTypes:=cP }) (bp:gu env as.toList=some xs) (h:hX P f xs s R)
  (ax:∀ x an,R (.ret x) an→ab P N ops l Q ((d,x)::env) an) (aa:∀ x an,R (.panic x) an→Q (.panic x) env an):ab P N ops (o::l) Q env s:=
 ab.op ay aA a1 (aX.call cG (fv := .func f [] []) C bp (iN.ey fG)) ax aa
theorem ab.VH {f:FuncId} {as:Array Operand} {cP:Array TypeId} {xs:List ag} {v:ag} (ay:guardOf ops env o=some true) (aA:o.dst=some d) (a1:af' d N=true)
  (cG:o.op = .call { callee := .value (.func f),args:=as,argTypes:=cP }) (bp:gu env as.toList=some xs) (h:hX P f xs s (fun out an=>out = .ret v∧an=s))
  (ax:ab P N ops l Q ((d,v)::env) s):ab P N ops (o::l) Q env s:=
 ab.call ay aA a1 cG bp h (fun x an ⟨U,ad⟩=>by cases U;subst ad;exact ax) (fun x an ⟨U,_⟩=>by cases U)
theorem ab.VI {g:Operand} {fv:ag} {as:Array Operand} {cP:Array TypeId} {xs:List ag} {R:eS→ao→Prop} (ay:guardOf ops env o=some true) (aA:o.dst=some d) (a1:af' d N=true)
  (cG:o.op = .call { callee := .value g,args:=as,argTypes:=cP }) (aD:aL env g=some fv) (bp:gu env as.toList=some xs) (h:iN P fv xs s R)
  (ax:∀ x an,R (.ret x) an→ab P N ops l Q ((d,x)::env) an) (aa:∀ x an,R (.panic x) an→Q (.panic x) env an):ab P N ops (o::l) Q env s:=
 ab.op ay aA a1 (aX.call cG aD bp h) ax aa
theorem ab.idx (aP:bX P Γ) {t e:TypeId} {x y:Operand} {it aJ:bQ} {sz:Nat} {xs:List ag} {own:bM} {k:IntKind} {i:Int} {v:ag} {cs:List ag} (j:Nat) (ay:guardOf ops env o=some true) (aA:o.dst=some d)
  (a1:af' d N=true) (ai:o.op = .indexAddr t x y) (aN:Γ.get? t=some it) (bw:it.bN = .aF e) (bP:Γ.get? e=some aJ) (aa:aL env x=some (.aF sz xs own)) (b6:sz=aJ.size) (ar:aL env y=some (.int k i))
  (ft:i=(j:Int)) (aK:xs[j]? = some v) (aw:cellsOf v=some cs) (h:ab P N ops l Q ((d,.bl cs 0)::env) s):ab P N ops (o::l) Q env s:=
 ab.pure aP ay aA a1 (.idx j ai aN bw bP aa b6 ar ft aK aw) h
theorem ab.AW (aP:bX P Γ) {t:TypeId} {x y:Operand} {it:bQ} {cs:List UInt8} {k:IntKind} {i:Int} {b:UInt8} (j:Nat) (ay:guardOf ops env o=some true) (aA:o.dst=some d)
  (a1:af' d N=true) (ai:o.op = .index t x y) (aN:Γ.get? t=some it) (bw:it.bN = .str) (aa:aL env x=some (.str cs)) (ar:aL env y=some (.int k i))
  (ft:i=(j:Int)) (aK:cs[j]? = some b) (h:ab P N ops l Q ((d,.int .u8 b.toNat)::env) s):ab P N ops (o::l) Q env s:=
 ab.pure aP ay aA a1 (.AW j ai aN bw aa ar ft aK) h
theorem ab.slice (aP:bX P Γ) {t e:TypeId} {x:Operand} {eo aQ kQ:Option Operand} {it aJ:bQ} {sz:Nat} {xs:List ag} {own dZ:bM} (a b:Nat) (ay:guardOf ops env o=some true) (aA:o.dst=some d)
  (a1:af' d N=true) (ai:o.op = .slice t x eo aQ kQ)
  (aN:Γ.get? t=some it) (bw:it.bN = .aF e) (bP:Γ.get? e=some aJ) (aa:aL env x=some (.aF sz xs own)) (b6:xs=[]∨sz=aJ.size)
  (iD:(eo=none∧a=0)∨∃ y k,eo=some y∧aL env y=some (.int k (a:Int))) (tO:(aQ=none∧kQ=none∧b=xs.length)∨∃ y k,aQ=some y∧aL env y=some (.int k (b:Int)))
  (qA:(kQ=none∧dZ = .a7)∨(∃ y k,kQ=some y∧aL env y=some (.int k (b:Int))∧dZ = .clip)) (aE:a≤b) (c4:b≤xs.length) (h:ab P N ops l Q ((d,.aF sz ((xs.take b).drop a) dZ)::env) s):ab P N ops (o::l) Q env s:=
 ab.pure aP ay aA a1 (.slice a b ai aN bw bP aa b6 iD tO qA aE c4) h
theorem ab.freeze (t b:Nat) {T:TypeId} {cs:List ag} (aN:env.get? t=some (.ptr b 0)) (al:s b=some (.box T cs)) (h:ab P N ops l Q ((t,.bl cs 0)::env) (s.del b)):ab P N ops l Q env s:=
 fun k ax=>jb.freeze t b aN al (h k ax)
theorem cg {next:Env→ao→Prop} (h:next env s):b8.andThen next Q .normal env s:=h
end
def rv (ops:Array Oper) (i j:Nat):Prop:=∃ o e,ops[i]? = some o∧e∈o.after∧Region.binds .any e=true∧e.on=j
inductive lL (ops:Array Oper):Nat→Nat→Prop
 | dep {i j:Nat} (h:rv ops i j):lL ops i j
 | trans {i j k:Nat} (h:rv ops i j) (t:lL ops j k):lL ops i k
def w4 (ops:Array Oper) (D:Nat→Bool):Prop:=∀ i j,D i=true→rv ops i j→D j=true
theorem w4.ry {ops:Array Oper} {D:Nat→Bool} (h:w4 ops D) {i j:Nat} (aQ:D i=true) (bp:lL ops i j):D j=true:=by
 induction bp with
 | dep aA=>exact h _ _ aQ aA
 | trans aA _ a8=>exact a8 (h _ _ aQ aA)
def dT (D:Nat→Bool) (i:Nat):Nat→Bool:=fun j=>if j=i then true else D j
theorem nJ (D:Nat→Bool) (i:Nat):dT D i i=true:=by simp [dT]
theorem kf (D:Nat→Bool) {i j:Nat} (h:j≠i):dT D i j=D j:=by simp [dT,h]
theorem w5 {D:Nat→Bool} {i j:Nat} (h:D j=true):dT D i j=true:=by unfold dT;split<;>simp_all
def hJ (ops:Array Oper) (D:Nat→Bool) (i:Nat):Prop:=i<ops.size∧D i=false∧∀ j,rv ops i j→D j=true
theorem w4.dT {ops:Array Oper} {D:Nat→Bool} (h:w4 ops D) {i:Nat} (aC:hJ ops D i):w4 ops (dT D i):=by
 intro a b bp aA;by_cases e:a=i
 ·subst e;exact w5 (aC.2.2 b aA)
 ·rw [kf _ e] at bp;exact w5 (h a b bp aA)
def looks (ops:Array Oper) (o:Oper):List Tmp:=
  (match o.guard with
   | some (g,_)=>match (ops[g]?).bind (·.dst) with
     | some d=>[d]
     | none=>[]
   | none=>[])++o.op.operands.toList.filterMap fun | .tmp t=>some t|_=>none
def j3 (env:Env):List Tmp→Env
  | []=>[]
  | t::hr=>match env.get? t with
    | some v=>(t,v)::j3 env hr
    | none=>j3 env hr
abbrev cF (l:List Oper) (env:Env) (o:Oper):Env:=j3 env (looks l.toArray o)
abbrev dO (l:List Oper) (env:Env) (o:Oper):Prop:=guardOf l.toArray (j3 env (looks l.toArray o)) o=some true
theorem LZ {env:Env} {hr:List Tmp} {t:Tmp} {v:ag} (h:(j3 env hr).get? t=some v):env.get? t=some v∧t∈hr:=by
 induction hr with
 | nil=>simp [j3,Env.get?] at h
 | cons u hr a8=>
  simp only [j3] at h;split at h
  ·rename_i x aa
   simp only [Env.get?] at h;split at h
   ·rename_i he
    have:=ai3 he;subst this;cases h;exact ⟨aa,g8 ..⟩
   ·exact ⟨(a8 h).1,f9 _ (a8 h).2⟩
  ·exact ⟨(a8 h).1,f9 _ (a8 h).2⟩
def Still (J:ao→Prop) (P:Program) (Γ:cz) (N:Nat) (ops:Array Oper) (o:Oper) (E:Env) (v:ag):Prop:=
 (guardOf ops E o=some true∧mi Γ o E v)∨(guardOf ops E o=some false∧v = .bW []) ∨
  (guardOf ops E o=some true∧∀ s,J s→aX P N o E s (fun x an=>x=v∧an=s) (fun _ _=>False))
structure vc (ops:Array Oper):Prop where
 uniq:∀ (i j:Nat) (x y:Oper) (d:Tmp),ops[i]? = some x→ops[j]? = some y→x.dst=some d→y.dst=some d→i=j
 apart:∀ (i j:Nat) (x y:Oper) (d:Tmp),i≠j→ops[i]? = some x→ops[j]? = some y→x.dst=some d→d∈looks ops y→lL ops i j∨lL ops j i
 back:∀ i j,rv ops i j→j<i
 own:∀ (i:Nat) (x:Oper) (d:Tmp),ops[i]? = some x→x.dst=some d→d∉looks ops x
inductive pV (P:Program) (Γ:cz) (N:Nat) (ops:Array Oper) (Q:b8→Env→ao→Prop):(ao→Prop)→(Nat→Bool)→Env→ao→Prop
 | congr {J:ao→Prop} {D:Nat→Bool} {env:Env} {s:ao} (e:Env) (he:∀ t,e.get? t=env.get? t) (h:pV P Γ N ops Q J D e s):pV P Γ N ops Q J D env s
 | fin {J:ao→Prop} {D:Nat→Bool} {env:Env} {s:ao} (fI:∀ i,i<ops.size→D i=true) (h:Q .normal env s):pV P Γ N ops Q J D env s
 | still {J:ao→Prop} {D:Nat→Bool} {env:Env} {s:ao} (cU:J s) (i:Nat) (o:Oper) (d:Tmp) (v:ag) (aC:hJ ops D i) (ai:ops[i]? = some o) (aA:o.dst=some d) (a1:d<N)
   (aD:Still J P Γ N ops o (j3 env (looks ops o)) v) (h:pV P Γ N ops Q J (dT D i) ((d,v)::env) s):pV P Γ N ops Q J D env s
 | split {J:ao→Prop} {D:Nat→Bool} {env:Env} {s:ao} (K X:Nat→ag→ao→Prop) (w6:Nat→ag→ao→ao→Prop) (cN:∃ i,i<ops.size∧D i=false)
   (ay:∀ i o,hJ ops D i→ops[i]? = some o→guardOf ops (j3 env (looks ops o)) o=some true∧aX P N o (j3 env (looks ops o)) s (K i) (X i)∧∀ d,o.dst=some d→d<N)
   (aK:∀ i o,hJ ops D i→ops[i]? = some o→∀ x an,K i x an→(w6 i x an=J∧J an)∨∀ j,j<ops.size→D j=true→j≠i→lL ops i j)
   (ax:∀ i o d,hJ ops D i→ops[i]? = some o→o.dst=some d→∀ x an,K i x an→pV P Γ N ops Q (w6 i x an) (dT D i) ((d,x)::env) an)
   (hd:∀ i o,hJ ops D i→ops[i]? = some o→o.dst=none→∀ x an,K i x an→pV P Γ N ops Q (w6 i x an) (dT D i) env an)
   (aa:∀ i o,hJ ops D i→ops[i]? = some o→∀ x an,X i x an→Q (.panic x) [] an):pV P Γ N ops Q J D env s
abbrev bH (J:ao→Prop) (P:Program) (Γ:cz) (N:Nat) (ops:Array Oper) (Q:b8→Env→ao→Prop) (D:Nat→Bool) (env:Env) (s:ao):Prop:=pV P Γ N ops Q J D env s
section
variable {J:ao→Prop} {P:Program} {Γ:cz} {N:Nat} {ops:Array Oper} {Q:b8→Env→ao→Prop} {D:Nat→Bool} {env:Env} {s:ao}
theorem bH.congr (e:Env) (he:∀ t,e.get? t=env.get? t) (h:bH J P Γ N ops Q D e s):bH J P Γ N ops Q D env s:=pV.congr e he h
theorem bH.fin (fI:∀ i,i<ops.size→D i=true) (h:Q .normal env s):bH J P Γ N ops Q D env s:=pV.fin fI h
theorem bH.still (cU:J s) (i:Nat) (o:Oper) (d:Tmp) (v:ag) (aC:hJ ops D i) (ai:ops[i]? = some o) (aA:o.dst=some d) (a1:d<N)
  (aD:Still J P Γ N ops o (j3 env (looks ops o)) v) (h:bH J P Γ N ops Q (dT D i) ((d,v)::env) s):bH J P Γ N ops Q D env s:=pV.still cU i o d v aC ai aA a1 aD h
theorem bH.split (K X:Nat→ag→ao→Prop) (cN:∃ i,i<ops.size∧D i=false)
  (ay:∀ i o,hJ ops D i→ops[i]? = some o→guardOf ops (j3 env (looks ops o)) o=some true∧aX P N o (j3 env (looks ops o)) s (K i) (X i)∧∀ d,o.dst=some d→d<N)
  (aK:∀ i o,hJ ops D i→ops[i]? = some o→∀ x an,K i x an→J an∨∀ j,j<ops.size→j≠i→lL ops i j)
  (ax:∀ i o d,hJ ops D i→ops[i]? = some o→o.dst=some d→∀ x an,K i x an→bH J P Γ N ops Q (dT D i) ((d,x)::env) an)
  (hd:∀ i o,hJ ops D i→ops[i]? = some o→o.dst=none→∀ x an,K i x an→bH J P Γ N ops Q (dT D i) env an)
  (aa:∀ i o,hJ ops D i→ops[i]? = some o→∀ x an,X i x an→Q (.panic x) [] an):bH J P Γ N ops Q D env s:=
 pV.split K X (fun _ _ _=>J) cN ay (fun i o U ad x an aj=>(aK i o U ad x an aj).imp (fun h=>⟨rfl,h⟩) (fun h j bk _ bF=>h j bk bF)) ax hd aa
end
def oi:ao→Prop:=fun _=>True
abbrev bb (P:Program) (Γ:cz) (N:Nat) (ops:Array Oper) (Q:b8→Env→ao→Prop) (D:Nat→Bool) (env:Env) (s:ao):Prop:=bH oi P Γ N ops Q D env s
structure ll (J:ao→Prop) (P:Program) (Γ:cz) (N:Nat) (B:fP) (ro:Option Nat) (ops:Array Oper) (D L:Nat→Bool) (V:Nat→ag) (E:Nat→Env) (env:Env) (s:ao) (a:Act) (w:World) (p:bV):Prop where
 sub:∀ i,L i=true→D i=true
 sG:w4 ops D
 rz:w4 ops L
 st:dx N B ro [] s a w p
 known:∀ t v,env.get? t=some v→(∃ k o,D k=true∧L k=false∧ops[k]? = some o∧o.dst=some t)∨Rel w p (a.tmps.getD t undef) v
 w7:∀ i o,D i=true→L i=false→ops[i]? = some o→∃ d,o.dst=some d∧d<N∧env.get? d=some (V i)∧Still J P Γ N ops o (E i) (V i) ∧
  (∀ t x,(E i).get? t=some x→t∈looks ops o∧(∀ k u,ops[k]? = some u→u.dst=some t→lL ops i k→L k=false→x=V k) ∧
   ((∀ k u,ops[k]? = some u→u.dst=some t→lL ops i k→L k=true)→Rel w p (a.tmps.getD t undef) x))
 bound:∀ i,D i=true→i<ops.size
 inv:(∀ i,D i=true→L i=true)∨J s
theorem dx.restrict {N:Nat} {B:fP} {ro:Option Nat} {env:Env} {s:ao} {a:Act} {w:World} {p:bV} (h:dx N B ro env s a w p) (e:Env) (he:∀ t v,e.get? t=some v→Rel w p (a.tmps.getD t undef) v) :
  dx N B ro e s a w p:=⟨h.size,he,h.wf,h.defs,h.round,h.base⟩
section
variable {J:ao→Prop} {P:Program} {Γ:cz} {N:Nat} {ops:Array Oper} {Q:b8→Env→ao→Prop}
theorem ll.ahead (dr:vc ops) {B:fP} {ro:Option Nat} {D L:Nat→Bool} {V:Nat→ag} {E:Nat→Env} {env:Env} {s:ao} {a:Act} {w:World} {p:bV}
  (h:ll J P Γ N B ro ops D L V E env s a w p) {i:Nat} {o:Oper} {d:Tmp} {v:ag} (aC:hJ ops D i) (ai:ops[i]? = some o) (aA:o.dst=some d) (a1:d<N)
  (cU:J s) (aD:Still J P Γ N ops o (j3 env (looks ops o)) v) :
  ll J P Γ N B ro ops (dT D i) L (fun j=>if j=i then v else V j) (fun j=>if j=i then j3 env (looks ops o) else E j) ((d,v)::env) s a w p:=by
 have VJ:L i=false:=by
  cases aE:L i with
  | false=>rfl
  | true=>have:=h.sub i aE;rw [aC.2.1] at this;cases this
 refine ⟨fun j aK=>w5 (h.sub j aK),h.sG.dT aC,h.rz,h.st,fun t x aa=>?_,fun j u aK nK hu=>?_,fun j aK=>?_,.inr cU⟩
 ·simp only [Env.get?] at aa
  split at aa
  ·rename_i he
   have:=ai3 he;subst this;exact .inl ⟨i,o,nJ _ _,VJ,ai,aA⟩
  ·rcases h.known t x aa with ⟨k,u,U,ad,aj,bk⟩|eG
   ·exact .inl ⟨k,u,w5 U,ad,aj,bk⟩
   ·exact .inr eG
 ·by_cases e:j=i
  ·subst e
   rw [ai] at hu;cases hu;refine ⟨d,aA,a1,by simp [Env.get?],?_,?_⟩
   ·simpa using aD
   ·intro t x aa
    simp only [ak2] at aa;obtain ⟨L0,sH⟩:=LZ aa;refine ⟨sH,fun k u ax jy il pW=>?_,fun jz=>?_⟩
    ·have cN:k≠j:=fun e'=>by
      subst e';rw [ai] at ax;cases ax;rw [aA] at jy;cases jy;exact dr.own _ _ _ ai aA sH
     rw [f4 cN];have VK:D k=true:=by
      have:=(h.sG.dT aC).ry (nJ D j) il;rwa [kf _ cN] at this
     obtain ⟨db,bT,bI,eh,-⟩:=h.w7 k u VK pW ax;rw [jy] at bT;cases bT;rw [L0] at eh;cases eh;rfl
    ·rcases h.known t x L0 with ⟨k,u,U,ad,aj,bk⟩|eG
     ·have cN:k≠j:=fun e'=>by subst e';rw [aC.2.1] at U;cases U
      rcases dr.apart k j u o t cN aj ai bk sH with il|il
      ·have:=h.sG.ry U il;rw [aC.2.1] at this;cases this
      ·have:=jz k u aj bk il;rw [ad] at this;cases this
     ·exact eG
  ·rw [kf _ e] at aK
   obtain ⟨db,bT,bI,eh,mc,qD⟩:=h.w7 j u aK nK hu;have ru:d≠db:=fun e'=>by subst e';exact e (dr.uniq j i u o d hu ai bT aA)
   refine ⟨db,bT,bI,?_,?_,?_⟩
   ·simp only [Env.get?,f4 e]
    have:aj4 d db=false:=by
     cases aq:aj4 d db with
     | false=>rfl
     | true=>exact absurd (ai3 aq) ru
    simp [this,eh]
   ·simpa [e] using mc
   ·intro t x aa
    simp only [f4 e] at aa;obtain ⟨f1,f2,f3⟩:=qD t x aa;refine ⟨f1,fun k ke ax jy il pW=>?_,f3⟩;have cN:k≠i:=fun e'=>by
     subst e';have:=h.sG.ry aK il;rw [aC.2.1] at this;cases this
    rw [f4 cN];exact f2 k ke ax jy il pW
 ·by_cases e:j=i
  ·subst e;exact aC.1
  ·rw [kf _ e] at aK;exact h.bound j aK
theorem ll.VL (dr:vc ops) {B:fP} {ro:Option Nat} {D L:Nat→Bool} {V:Nat→ag} {E:Nat→Env} {env:Env} {s:ao} {a:Act} {w w':World} {p bg:bV}
  (h:ll J P Γ N B ro ops D L V E env s a w p) {i:Nat} {o:Oper} {d:Tmp} {val:Value} (aC:hJ ops L i) (fI:D i=true) (ai:ops[i]? = some o) (aA:o.dst=some d)
  (hle:c2 w p w' bg) (ax:Kept s s w p w' bg) (ca:dn w' bg s) (oV:Rel w' bg val (V i)):ll J P Γ N B ro ops D (dT L i) V E env s (a.put (some d) val) w' bg:=by
 obtain ⟨db,cH,n9,Dw,L1,gB⟩:=h.w7 i o fI aC.2.1 ai;rw [aA] at cH;cases cH;have iM:=h.st.step hle ax ca;have w8:=iM.put n9 oV;have rq:∀ t,t≠d→(a.put (some d) val).tmps.getD t undef=a.tmps.getD t undef:=fun t aN=>by
  simp only [Act.put,ak1,aj9,f4 (fun e:d=t=>aN e.symm)]
 have Dx:(a.put (some d) val).tmps.getD d undef=val:=by
  have:d<a.tmps.size:=by rw [h.st.size];exact n9
  simp [Act.put,ak1,aj9,this]
 refine ⟨fun j aK=>?_,h.sG,h.rz.dT aC,w8.restrict [] (by simp [Env.get?]),fun t x aa=>?_,fun j u aK nK hu=>?_,h.bound,h.inv.imp (fun q j aK=>w5 (q j aK)) id⟩
 ·by_cases e:j=i
  ·subst e;exact fI
  ·rw [kf _ e] at aK;exact h.sub j aK
 ·by_cases e:t=d
  ·subst e
   rw [Dw] at aa;cases aa;exact .inr (by rw [Dx];exact oV)
  ·rcases h.known t x aa with ⟨k,u,U,ad,aj,bk⟩|eG
   ·have cN:k≠i:=fun e'=>by subst e';rw [ai] at aj;cases aj;rw [aA] at bk;cases bk;exact e C
    exact .inl ⟨k,u,U,by rw [kf _ cN];exact ad,aj,bk⟩
   ·exact .inr (by rw [rq t e];exact eG.mono hle)
 ·have cN:j≠i:=fun e=>by subst e;rw [nJ] at nK;cases nK
  rw [kf _ cN] at nK;obtain ⟨db,bT,bI,eh,mc,qD⟩:=h.w7 j u aK nK hu;refine ⟨db,bT,bI,eh,mc,fun t x aa=>?_⟩;obtain ⟨f1,f2,f3⟩:=qD t x aa;refine ⟨f1,fun k ke fa jy il pW=>?_,fun jz=>?_⟩
  ·have w9:k≠i:=fun e=>by subst e;rw [nJ] at pW;cases pW
   rw [kf _ w9] at pW;exact f2 k ke fa jy il pW
  ·by_cases e:t=d
   ·subst e
    rcases dr.apart i j o u t (Ne.symm cN) ai hu aA f1 with il|il
    ·have:=h.rz.dT aC |>.ry (nJ L i) il
     rw [kf _ cN] at this;rw [nK] at this;cases this
    ·have:=f2 i o ai aA il aC.2.1
     subst this;rw [Dx];exact oV
   ·rw [rq t e]
    refine (f3 fun k ke fa jy il=>?_).mono hle;have w9:k≠i:=fun e'=>by subst e';rw [ai] at fa;cases fa;rw [aA] at jy;cases jy;exact e C
    have:=jz k ke fa jy il;rwa [kf _ w9] at this
theorem ll.ready (dr:vc ops) {B:fP} {ro:Option Nat} {D L:Nat→Bool} {V:Nat→ag} {E:Nat→Env} {env:Env} {s:ao} {a:Act} {w:World} {p:bV}
  (h:ll J P Γ N B ro ops D L V E env s a w p) {i:Nat} {o:Oper} (aC:hJ ops L i) (fI:D i=false) (ai:ops[i]? = some o) :
  hJ ops D i∧dx N B ro (j3 env (looks ops o)) s a w p:=by
 refine ⟨⟨aC.1,fI,fun j aK=>h.sub j (aC.2.2 j aK)⟩,h.st.restrict _ fun t v aD=>?_⟩;obtain ⟨U,ad⟩:=LZ aD;rcases h.known t v U with ⟨k,u,g1,g2,g3,g4⟩|eG
 ·have cN:k≠i:=fun e=>by subst e;rw [fI] at g1;cases g1
  rcases dr.apart k i u o t cN g3 ai g4 ad with il|il
  ·have:=h.sG.ry g1 il;rw [fI] at this;cases this
  ·have:=(h.rz.dT aC).ry (nJ L i) il
   rw [kf _ cN,g2] at this;cases this
 ·exact eG
theorem ll.both (dr:vc ops) {B:fP} {ro:Option Nat} {D L:Nat→Bool} {V:Nat→ag} {E:Nat→Env} {env:Env} {s an:ao} {a:Act} {w w':World} {p bg:bV}
  (h:ll J P Γ N B ro ops D L V E env s a w p) {i:Nat} {o:Oper} {val:Value} {x:ag} (aC:hJ ops L i) (qE:hJ ops D i) (ai:ops[i]? = some o) (n9:∀ d,o.dst=some d→d<N)
  (hle:c2 w p w' bg) (ax:Kept s an w p w' bg) (ca:dn w' bg an) (oV:Rel w' bg val x) (cU:J an∨∀ j,j<ops.size→D j=true→j≠i→lL ops i j) :
  ll J P Γ N B ro ops (dT D i) (dT L i) V E (match o.dst with|some d=>(d,x)::env|none=>env) an (a.put o.dst val) w' bg:=by
 have iM:=h.st.step hle ax ca;have rq:∀ t,o.dst≠some t→(a.put o.dst val).tmps.getD t undef=a.tmps.getD t undef:=fun t aN=>by
  cases aA:o.dst with
  | none=>rfl
  | some d=>
   have:d≠t:=fun e=>aN (by rw [aA,e])
   simp only [Act.put,ak1,aj9,f4 this]
 have Dx:∀ d,o.dst=some d→(a.put o.dst val).tmps.getD d undef=val:=fun d aA=>by
  have:d<a.tmps.size:=by rw [h.st.size];exact n9 d aA
  simp [aA,Act.put,ak1,aj9,this]
 have w8:dx N B ro [] an (a.put o.dst val) w' bg:=by
  cases aA:o.dst with
  | none=>exact iM
  | some d=>exact (iM.put (n9 d aA) oV).restrict [] (by simp [Env.get?])
 refine ⟨fun j aK=>?_,h.sG.dT qE,h.rz.dT aC,w8,fun t y ar=>?_,fun j u aK nK hu=>?_,fun j aK=>?_,cU.symm.imp (fun q j aK=>?_) id⟩
 ·by_cases e:j=i
  ·subst e;exact nJ _ _
  ·rw [kf _ e] at aK;exact w5 (h.sub j aK)
 ·by_cases e:o.dst=some t
  ·simp only [e,Env.get?,ay',ak2] at ar
   cases ar;exact .inr (by rw [Dx t e];exact oV)
  ·have cf:env.get? t=some y:=by
    cases aA:o.dst with
    | none=>rw [aA] at ar;exact ar
    | some d=>
     rw [aA] at ar e;simp only [Env.get?] at ar;have:aj4 d t=false:=by
      cases aq:aj4 d t with
      | false=>rfl
      | true=>exact absurd (ak5 some (ai3 aq)) e
     rw [this] at ar;simpa using ar
   rcases h.known t y cf with ⟨k,u,U,ad,aj,bk⟩|eG
   ·have cN:k≠i:=fun e'=>by subst e';rw [ai] at aj;cases aj;exact e bk
    exact .inl ⟨k,u,w5 U,by rw [kf _ cN];exact ad,aj,bk⟩
   ·exact .inr (by rw [rq t e];exact eG.mono hle)
 ·have cN:j≠i:=fun e=>by subst e;rw [nJ] at nK;cases nK
  rw [kf _ cN] at nK aK;obtain ⟨db,bT,bI,eh,mc,qD⟩:=h.w7 j u aK nK hu;have VM:o.dst≠some db:=fun e=>cN (dr.uniq j i u o db hu ai bT e)
  refine ⟨db,bT,bI,?_,mc,fun t y ar=>?_⟩
  ·cases aA:o.dst with
   | none=>exact eh
   | some d=>
    simp only [Env.get?];have:aj4 d db=false:=by
     cases aq:aj4 d db with
     | false=>rfl
     | true=>exact absurd (by rw [aA,ai3 aq]) VM
    rw [this];simpa using eh
  ·obtain ⟨f1,f2,f3⟩:=qD t y ar
   have L2:o.dst≠some t:=fun e=>by
    rcases dr.apart i j o u t (Ne.symm cN) ai hu e f1 with il|il
    ·have:=(h.rz.dT aC).ry (nJ L i) il
     rw [kf _ cN,nK] at this;cases this
    ·have:=h.sG.ry aK il;rw [qE.2.1] at this;cases this
   refine ⟨f1,fun k ke fa jy il pW=>?_,fun jz=>?_⟩
   ·have w9:k≠i:=fun e=>by subst e;rw [nJ] at pW;cases pW
    rw [kf _ w9] at pW;exact f2 k ke fa jy il pW
   ·rw [rq t L2]
    refine (f3 fun k ke fa jy il=>?_).mono hle;have w9:k≠i:=fun e'=>by subst e';rw [ai] at fa;cases fa;exact L2 jy
    have:=jz k ke fa jy il;rwa [kf _ w9] at this
 ·by_cases e:j=i
  ·subst e;exact aC.1
  ·rw [kf _ e] at aK;exact h.bound j aK
 ·by_cases e:j=i
  ·subst e;exact nJ _ _
  ·rw [kf _ e] at aK
   exact (h.rz.dT aC).ry (nJ L i) (q j (h.bound j aK) aK e)
theorem ll.VN (dr:vc ops) {B:fP} {ro:Option Nat} {D L:Nat→Bool} {V:Nat→ag} {E:Nat→Env} {env:Env} {s an:ao} {a:Act} {w w':World} {p bg:bV} {w6:ao→Prop}
  (h:ll J P Γ N B ro ops D L V E env s a w p) {i:Nat} {o:Oper} {val:Value} {x:ag} (aC:hJ ops L i) (qE:hJ ops D i) (ai:ops[i]? = some o) (n9:∀ d,o.dst=some d→d<N)
  (hle:c2 w p w' bg) (ax:Kept s an w p w' bg) (ca:dn w' bg an) (oV:Rel w' bg val x) (cU:(w6=J∧J an)∨∀ j,j<ops.size→D j=true→j≠i→lL ops i j) :
  ll w6 P Γ N B ro ops (dT D i) (dT L i) V E (match o.dst with|some d=>(d,x)::env|none=>env) an (a.put o.dst val) w' bg:=by
 rcases cU with ⟨rfl,cU⟩|jz
 ·exact h.both dr aC qE ai n9 hle ax ca oV (.inl cU)
 ·have eA:=h.both dr aC qE ai n9 hle ax ca oV (.inr jz)
  have left:∀ j,dT D i j=true→dT L i j=true:=fun j aK=>by
   by_cases e:j=i
   ·subst e;exact nJ _ _
   ·rw [kf _ e] at aK
    exact (h.rz.dT aC).ry (nJ L i) (jz j (h.bound j aK) aK e)
  exact ⟨eA.sub,eA.sG,eA.rz,eA.st,eA.known,fun j u aK nK _=>(by rw [left j aK] at nK;cases nK),eA.bound,.inl left⟩
def j4 (listed:Array Bool) (n:Nat):Nat→Bool:=fun i=>decide (i<n)&&listed.getD i true
theorem mem_ready {listed:Array Bool} (yZ:∀ i j,rv ops i j→j<i) {i:Nat} (h:i∈Region.ready .any ops listed):hJ ops (j4 listed ops.size) i:=by
 unfold Region.ready at h;simp only [aj1,al4,d6,aj7] at h;obtain ⟨au,aE,jz⟩:=h;refine ⟨au,by simp only [j4,aE,Bool.and_false],fun j ⟨o,e,ai,he,aq,aK⟩=>?_⟩;have agz:j<i:=yZ i j ⟨o,e,ai,he,aq,aK⟩;rw [ai] at jz;simp only [an8,al1,aE7] at jz;have:=jz e he;simp only [aq,an5,ak4] at this;rw [aK] at this;have tB:j<ops.size:=by omega
 simp only [j4,tB,decide_true,i8];rw [ak1] at this ⊢;cases aa:listed[j]? with
 | none=>rfl
 | some b=>rw [aa] at this;simpa using this
theorem L3 {listed:Array Bool} (yZ:∀ i j,rv ops i j→j<i) (av:Region.ready .any ops listed=[]) (b6:listed.size=ops.size):∀ i,i<ops.size→j4 listed ops.size i=true:=by
 intro i
 induction i using aG0 with
 | _ i a8=>
  intro aQ;cases aE:listed.getD i true with
  | true=>simp [j4,aQ,aE]
  | false=>
   have gV:i∈Region.ready .any ops listed:=by
    unfold Region.ready;simp only [aj1,al4,d6,aj7];refine ⟨aQ,aE,?_⟩;have ai:ops[i]? = some ops[i]:=by simp
    rw [ai];simp only [an8,al1,aE7];intro e he;cases aq:Region.binds .any e with
    | false=>rfl
    | true=>
     simp only [an5,ak4];have au:=yZ i e.on ⟨_,e,ai,he,aq,rfl⟩;have:=a8 e.on au ak;have dA:e.on<listed.size:=by omega
     simp only [j4,d6] at this;rw [ak1] at this ⊢;have VO:listed[e.on]? = some listed[e.on]:=by simp [dA]
     rw [VO] at this ⊢;simpa using this.2
   rw [av] at gV;cases gV
theorem G4 {listed:Array Bool} {i:Nat} (aQ:i<ops.size) (b6:listed.size=ops.size):j4 (listed.setIfInBounds i true) ops.size=dT (j4 listed ops.size) i:=by
 funext j;unfold j4 dT;by_cases e:j=i
 ·subst e;simp [aQ,b6]
 ·have e':¬ i=j:=fun h=>e h.symm
  simp only [f4 e,ak1,aj9,f4 e']
theorem VP (aP:bX P Γ) {B:fP} {ro:Option Nat} {E:Env} {s:ao} {a:Act} {w:World} {p:bV} {o:Oper} {d:Tmp} {v:ag} (aA:o.dst=some d) (aI:dx N B ro E s a w p) (cU:J s) (h:Still J P Γ N ops o E v) {R:Ending→World→Prop} {S:Act→World→Prop}
  (I:∀ val w' bg,Rel w' bg val v→c2 w p w' bg→Kept s s w p w' bg→dn w' bg s→S (a.put (some d) val) w') :
  (if Region.wanted o (yielded ops a.tmps)=true then gS o=true∧qs P ((execOp a.eval o).run P w) (fun e w'=>match e with
   | .returned v=>S (a.put o.dst v) w'
   | .panicked dC=>R (.panicked dC) w'
   | .outgrown=>False) else S (a.put o.dst undef) w):=by
 rcases h with ⟨ay,aD⟩|⟨ay,rfl⟩|⟨ay,aD⟩
 ·rw [f7 (wH aI ay)]
  refine ⟨aD.gS,?_⟩;obtain ⟨val,w',bg,cI,aC,hle,ax⟩:=aD.ok aP aI;rw [cI];obtain ⟨ma,iB⟩:=ax s aI.wf;rw [aA];exact I val w' bg aC hle ma iB
 ·rw [f4 (by rw [wH aI ay];simp),aA]
  exact I undef w p Gv (.refl w p) (.refl s w p) aI.wf
 ·rw [f7 (wH aI ay)]
  refine ⟨(aD s cU).1,((aD s cU).2 ro B a w p aI).mono ?_⟩;rintro e w' ⟨an,bg,hle,ax,ca,he⟩;cases e with
  | returned val=>
   obtain ⟨x,⟨rfl,rfl⟩,aC⟩:=he;rw [aA];exact I val w' bg aC hle ax ca
  | panicked dC=>obtain ⟨v,x,-,aZ,-⟩:=he;exact aZ.elim
  | outgrown=>exact he
end
section
variable {J:ao→Prop} {P:Program} {Γ:cz} {N:Nat} {ops:Array Oper} {Q:b8→Env→ao→Prop}
def sI (listed:Array Bool) (n:Nat):Nat:=(ak6 n).countP fun i => !j4 listed n i
theorem L4 {listed:Array Bool} {i:Nat} (aQ:i<ops.size) (b6:listed.size=ops.size) (aE:j4 listed ops.size i=false) :
  sI (listed.setIfInBounds i true) ops.size+1=sI listed ops.size:=by
 unfold sI;rw [G4 aQ b6];have key:∀ l:List Nat,l.Nodup→i∈l→l.countP (fun j => !dT (j4 listed ops.size) i j)+1=l.countP (fun j => !j4 listed ops.size j):=by
  intro l
  induction l with
  | nil=>intro _ h;cases h
  | cons x l a8=>
   intro av hm;have eO:=ar3.1 av;simp only [List.countP_cons];by_cases e:x=i
   ·subst e
    have:l.countP (fun j => !dT (j4 listed ops.size) x j)=l.countP (fun j => !j4 listed ops.size j):=by
     apply List.countP_congr;intro y ar;have cN:y≠x:=fun e=>eO.1 (e ▸ ar)
     rw [kf _ cN]
    rw [this,nJ,aE];simp
   ·have mZ:i∈l:=by rcases ai1.1 hm with h|h;exact absurd h.symm e;exact h
    have:=a8 eO.2 mZ;rw [kf _ e];omega
 exact key _ List.nodup_range (al4.2 aQ)
theorem L5 {listed:Array Bool} (h:sI listed ops.size=0):∀ i,i<ops.size→j4 listed ops.size i=true:=by
 intro i aQ;unfold sI at h;rw [List.countP_eq_zero] at h;have:=h i (al4.2 aQ);simpa using this
theorem L6 {Q:hx→Act→World→Prop} {i:Nat} {rest:List Nat} {o:Oper} (ai:ops[i]? = some o) (a:Act) (w:World) :
  ku P ops Q (i::rest) a w=(if Region.wanted o (yielded ops a.tmps)=true then gS o=true∧qs P ((execOp a.eval o).run P w) (fun e w'=>match e with
   | .returned v=>ku P ops Q rest (a.put o.dst v) w'
   | .panicked dC=>Q (.panic dC) a w'
   | .outgrown=>False) else ku P ops Q rest (a.put o.dst undef) w):=by
 simp only [ku,ai];split
 ·exact propext ⟨fun h=>⟨h.1,h.2.mono fun e w' h=>by cases e<;>exact h⟩,fun h=>⟨h.1,h.2.mono fun e w' h=>by cases e<;>exact h⟩⟩
 ·rfl
theorem L7 (fuel t:Nat) (listed:Array Bool) :
  (Region.ready .any ops listed=[]∧Region.linearise.go .any ops (fuel+1) t listed []=[]) ∨
  ∃ i∈Region.ready .any ops listed,∃ bR,Region.linearise.go .any ops (fuel+1) t listed []=i::Region.linearise.go .any ops fuel bR (listed.setIfInBounds i true) []:=by
 simp only [Region.linearise.go]
 change (Region.ready .any ops listed=[]∧(match (Region.ready .any ops listed)[t % (Region.ready .any ops listed).length]? with
   | some i=>Region.linearise.go .any ops fuel (t / (Region.ready .any ops listed).length) (listed.setIfInBounds i true) [i]
   | none=>[].reverse)=[])∨∃ i∈Region.ready .any ops listed,∃ bR,(match (Region.ready .any ops listed)[t % (Region.ready .any ops listed).length]? with
   | some i=>Region.linearise.go .any ops fuel (t / (Region.ready .any ops listed).length) (listed.setIfInBounds i true) [i]
   | none=>[].reverse)=i::Region.linearise.go .any ops fuel bR (listed.setIfInBounds i true) []
 cases aQ:(Region.ready .any ops listed)[t % (Region.ready .any ops listed).length]? with
 | none=>
  have VQ:Region.ready .any ops listed=[]:=by
   cases aC:Region.ready .any ops listed with
   | nil=>rfl
   | cons x xs=>
    rw [aC] at aQ;have au:t % (x::xs).length<(x::xs).length:=Nat.mod_lt _ bc;simp at aQ;simp at au;omega
  exact .inl ⟨VQ,rfl⟩
 | some i=>
  refine .inr ⟨i,List.mem_of_getElem? aQ,t / (Region.ready .any ops listed).length,?_⟩;simp only [];rw [linearise_go_acc];rfl
theorem ll.post {B:fP} {ro:Option Nat} {D L:Nat→Bool} {V:Nat→ag} {E:Nat→Env} {env:Env} {s:ao} {a:Act} {w:World} {p:bV}
  (h:ll J P Γ N B ro ops D L V E env s a w p) (bE:∀ i,i<ops.size→L i=true):dx N B ro env s a w p:=
 h.st.restrict _ fun t v aD=>by
  rcases h.known t v aD with ⟨k,u,U,ad,aj,-⟩|eG
  ·have:=bE k (h.bound k U);rw [ad] at this;cases this
  ·exact eG
theorem bH.sound (aP:bX P Γ) (dr:vc ops) {D:Nat→Bool} {env:Env} {s:ao} (h:bH J P Γ N ops Q D env s):∀ (fuel t:Nat) (listed:Array Bool) (B:fP) (ro:Option Nat) (V:Nat→ag) (E:Nat→Env) (a:Act) (w:World) (p:bV),
  listed.size=ops.size→sI listed ops.size≤fuel→ll J P Γ N B ro ops D (j4 listed ops.size) V E env s a w p →
  ku P ops (kx N B ro s w p Q) (Region.linearise.go .any ops fuel t listed []) a w:=by
 have pending:∀ {J:ao→Prop} {D:Nat→Bool} {env:Env} {s:ao} (fuel:Nat),
   (∀ (t:Nat) (listed:Array Bool) (B:fP) (ro:Option Nat) (V:Nat→ag) (E:Nat→Env) (a:Act) (w:World) (p:bV),listed.size=ops.size→sI listed ops.size≤fuel →
    ll J P Γ N B ro ops D (j4 listed ops.size) V E env s a w p→ku P ops (kx N B ro s w p Q) (Region.linearise.go .any ops fuel t listed []) a w) →
   ∀ (bR:Nat) (listed:Array Bool) (B:fP) (ro:Option Nat) (V:Nat→ag) (E:Nat→Env) (a:Act) (w:World) (p:bV) (i:Nat),listed.size=ops.size→sI listed ops.size≤fuel+1 →
    ll J P Γ N B ro ops D (j4 listed ops.size) V E env s a w p→i∈Region.ready .any ops listed→D i=true →
    ku P ops (kx N B ro s w p Q) (i::Region.linearise.go .any ops fuel bR (listed.setIfInBounds i true) []) a w:=by
  intro J D env s fuel a8 bR listed B ro V E a w p i b6 qF h9 aQ fI;have aC:=mem_ready dr.back aQ;obtain ⟨o,ai⟩:∃ o,ops[i]? = some o:=⟨_,au6 aC.1⟩;obtain ⟨d,aA,n9,Dw,L1,gB⟩:=h9.w7 i _ fI aC.2.1 ai;have aI:dx N B ro (E i) s a w p:=h9.st.restrict _ fun t v aD=>by
   obtain ⟨-,-,f3⟩:=gB t v aD;exact f3 fun k u ax jy il=>by
    have:=(h9.rz.dT aC).ry (nJ (j4 listed ops.size) i) il;have cN:k≠i:=fun e=>by
     subst e;rw [ai] at ax;cases ax;rw [aA] at jy;cases jy;exact dr.own _ _ _ ai aA (gB _ _ aD).1
    rwa [kf _ cN] at this
  rw [L6 ai];have cU:J s:=h9.inv.elim (fun q=>by have:=q i fI;rw [aC.2.1] at this;cases this) id;refine VP aP aA aI cU L1 (R:=fun e w'=>match e with | .panicked dC=>kx N B ro s w p Q (.panic dC) a w'|_=>False) ?_;intro val w' bg eG hle ax ca;have vd:=h9.VL dr aC fI ai aA hle ax ca eG;rw [← G4 aC.1 b6] at vd;have VR:=L4 aC.1 b6 aC.2.1;refine AD (fun _ _ _ (q:kx N B ro s w' bg Q _ _ _)=>q.after hle ax) _ _ _ (a8 bR _ B ro V E _ w' bg (by simpa using b6) ak vd)
 induction h with
 | @congr J D env s e he h a8=>
  intro fuel t listed B ro V E a w p b6 qF h9;refine a8 fuel t listed B ro V E a w p b6 qF ⟨h9.sub,h9.sG,h9.rz,h9.st,fun t v aD=>h9.known t v ((he t).symm.trans aD),fun i o U ad aj=>?_,h9.bound,h9.inv⟩;obtain ⟨d,dF,c8,du,lh⟩:=h9.w7 i o U ad aj;exact ⟨d,dF,c8,(he d).trans du,lh⟩
 | @fin J D env s fI bf=>
  intro fuel
  induction fuel with
  | zero=>
   intro t listed B ro V E a w p b6 qF h9;have jz:=L5 (ops:=ops) (listed:=listed) ak;exact .here .normal bf (h9.post jz)
  | succ fuel a8=>
   intro t listed B ro V E a w p b6 qF h9;rcases L7 (ops:=ops) fuel t listed with ⟨av,ay⟩|⟨i,aQ,bR,ay⟩
   ·rw [ay]
    exact .here .normal bf (h9.post (L3 dr.back av b6))
   ·rw [ay]
    exact pending fuel a8 bR listed B ro V E a w p i b6 qF h9 aQ (fI i (mem_ready dr.back aQ).1)
 | @still J D env s cU i o d v aC ai aA a1 aD h a8=>
  intro fuel t listed B ro V E a w p b6 qF h9;exact a8 fuel t listed B ro _ _ a w p b6 qF (h9.ahead dr aC ai aA a1 cU aD)
 | @split J D env s K X w6 cN ay aK ax hd aa VS VT=>
  intro fuel
  induction fuel with
  | zero=>
   intro t listed B ro V E a w p b6 qF h9;have jz:=L5 (ops:=ops) (listed:=listed) ak;obtain ⟨j,aK,G5⟩:=cN;have:=h9.sub j (jz j aK);rw [G5] at this;cases this
  | succ fuel a8=>
   intro t listed B ro V E a w p b6 qF h9;rcases L7 (ops:=ops) fuel t listed with ⟨av,y0⟩|⟨i,aQ,bR,y0⟩
   ·obtain ⟨j,aK,G5⟩:=cN
    have:=h9.sub j (L3 dr.back av b6 j aK);rw [G5] at this;cases this
   ·rw [y0]
    cases fI:D i with
    | true=>exact pending fuel a8 bR listed B ro V E a w p i b6 qF h9 aQ fI
    | false=>
     have aC:=mem_ready dr.back aQ;obtain ⟨o,ai⟩:∃ o,ops[i]? = some o:=⟨_,au6 aC.1⟩;obtain ⟨qE,aI⟩:=h9.ready dr aC fI ai;obtain ⟨m0,rA,n9⟩:=ay i _ qE ai;have VR:=L4 aC.1 b6 aC.2.1;rw [L6 ai,f7 (wH aI m0)];refine ⟨rA.1,(rA.2 ro B a w p aI).mono ?_⟩;rintro e w' ⟨an,bg,hle,l8,ca,he⟩;cases e with
     | returned val=>
      obtain ⟨x,bC,eG⟩:=he;have vd:=h9.VN dr aC qE ai n9 hle l8 ca eG (aK i _ qE ai x an bC);rw [← G4 aC.1 b6] at vd;refine AD (fun _ _ _ (q:kx N B ro an w' bg Q _ _ _)=>q.after hle l8) _ _ _ ?_;cases aA:o.dst with
      | none=>
       rw [aA] at vd;exact VT i _ qE ai aA x an bC fuel bR _ B ro V E _ w' bg (by simpa using b6) ak vd
      | some d=>
       rw [aA] at vd;exact VS i _ d qE ai aA x an bC fuel bR _ B ro V E _ w' bg (by simpa using b6) ak vd
     | panicked dC=>
      obtain ⟨v,x,jr,jq,eG⟩:=he;exact ⟨.panic x,[],an,bg,.panic v x _ jr eG,aa i _ qE ai x an jq,h9.st.step hle l8 ca,hle,l8⟩
     | outgrown=>exact he
theorem VU (ops:Array Oper):sI (ao' ops.size false) ops.size≤ops.size:=by
 unfold sI;have:=List.countP_le_length (p:=fun i => !j4 (ao' ops.size false) ops.size i) (l:=ak6 ops.size);simpa using this
theorem af.draw (aP:bX P Γ) (hm:P.follows .mixedOrders=true) {id:Nat} (dr:vc ops) {env:Env} {s:ao} (h:bH J P Γ N ops Q (fun _=>false) env s):af P N (.region id ops true) Q env s:=by
 intro b B a w p _ aI;refine Ui fun t=>?_
 simp only [Region.schedule,hm,Bool.true_or,ak2];have iM:dx N B b.roundOf env s a w.drew p:=aI.step lb wK (yK aI.wf);have VV:j4 (ao' ops.size false) ops.size=fun _=>false:=by
  funext i;unfold j4;by_cases aQ:i<ops.size
  ·simp [aQ]
  ·simp [aQ]
 have h9:ll J P Γ N B b.roundOf ops (fun _=>false) (j4 (ao' ops.size false) ops.size) (fun _ => .any) (fun _=>[]) env s a w.drew p:=by
  rw [VV];exact ⟨fun i h=>h,fun i j h=>nA,fun i j h=>nA,iM.restrict [] (by simp [Env.get?]),fun t v aD => .inr (iM.env t v aD),fun i o h=>nA,fun i h=>nA,.inl fun i h=>nA⟩
 have:=bH.sound aP dr h ops.size t (ao' ops.size false) B b.roundOf _ _ a w.drew p bc (VU ops) h9;exact AD (fun _ _ _ (q:kx N B b.roundOf s w.drew p Q _ _ _)=>q.after lb wK) _ _ _ this
end
def xa (o:Oper):List Nat:=o.after.toList.filterMap fun e=>if Region.binds .any e then some e.on else none
def rB (l:List Nat) (i:Nat):Nat:=match nth l i with|some x=>x|none=>0
def y1 (acc:List Nat):List Nat→Nat
 | []=>0
 | j::xb=>(2^j|||rB acc j)|||y1 acc xb
def xc:List Oper→List Nat→List Nat
  | [],acc=>acc
  | o::r,acc=>match y1 acc (xa o) with
    | 0=>xc r (acc++[0])
    | m+1=>xc r (acc++[m+1])
def Dy (ops:Array Oper) (x y:Oper):Bool:=
 (match x.dst with|some d=>(looks ops y).contains d|none=>false)||(match y.dst with|some d=>(looks ops x).contains d|none=>false)
def rC (ops:Array Oper):Bool:=
  let ms:=xc ops.toList []
  (ak6 ops.size).all fun j=>match ops[j]? with
    | none=>false
    | some y=>(xa y).all (fun k=>af' k j)&&(match y.dst with|some d => !(looks ops y).contains d|none=>true) &&
      (ak6 j).all fun i=>match ops[i]? with
        | none=>false
        | some x=>(match x.dst,y.dst with|some d,some db => !aj4 d db|_,_=>true)&&(!Dy ops x y||(rB ms j).testBit i)
theorem Dz {ops:Array Oper} {i j:Nat} {o:Oper} (ai:ops[i]? = some o):j∈xa o↔rv ops i j:=by
 unfold xa rv;simp only [List.mem_filterMap,Array.mem_toList_iff];constructor
 ·rintro ⟨e,he,h⟩
  split at h
  ·cases h;exact ⟨o,e,ai,he,‹_›,rfl⟩
  ·cases h
 ·rintro ⟨o',e,cW,he,aq,rfl⟩
  rw [ai] at cW;cases cW;exact ⟨e,he,by simp [aq]⟩
theorem VW {ops:Array Oper} {acc:List Nat} {k:Nat} (y2:∀ i j,(rB acc i).testBit j=true→lL ops i j):∀ (xb:List Nat),(∀ j∈xb,rv ops k j)→∀ j,(y1 acc xb).testBit j=true→lL ops k j:=by
 intro xb
 induction xb with
 | nil=>intro _ j h;simp [y1] at h
 | cons x xb a8=>
  intro aA j h;simp only [y1,aq8,Bool.or_eq_true] at h;rcases h with (h|h)|h
  ·rw [ap9] at h
   have:=ao4 h;subst this;exact .dep (aA _ (g8 ..))
  ·exact .trans (aA _ (g8 ..)) (y2 _ _ h)
  ·exact a8 (fun y ar=>aA y (f9 _ ar)) j h
theorem L8 {ops:Array Oper}:∀ (r:List Oper) (acc:List Nat),(∀ i,r[i]? = ops[acc.length+i]?)→(∀ i j,(rB acc i).testBit j=true→lL ops i j) →
  ∀ i j,(rB (xc r acc) i).testBit j=true→lL ops i j:=by
 intro r
 induction r with
 | nil=>intro acc _ h;exact h
 | cons o r a8=>
  intro acc aC y2;have ai:ops[acc.length]? = some o:=by simpa using (aC 0).symm
  have hm:=VW y2 (k:=acc.length) (xa o) (fun j aK=>(Dz ai).1 aK);have key:∀ m,y1 acc (xa o)=m→∀ i j,(rB (xc r (acc++[m])) i).testBit j=true→lL ops i j:=by
   intro m lM;refine a8 (acc++[m]) (fun i=>?_) (fun i j h=>?_)
   ·have:=aC (i+1)
    simp only [at3] at this;rw [this];simp [at1,as9 1 i]
   ·unfold rB at h
    rw [yL] at h;by_cases aQ:i<acc.length
    ·rw [ak3 aQ] at h
     exact y2 i j (by unfold rB;rw [yL];exact h)
    ·rw [ak0 ak] at h
     by_cases he:i=acc.length
     ·subst he
      simp at h;rw [← lM] at h;exact hm j h
     ·have:i-acc.length≠0:=by omega
      cases aa:i-acc.length with
      | zero=>omega
      | succ n=>rw [aa] at h;simp at h
  simp only [xc];split
  ·rename_i bn;exact key _ bn
  ·rename_i m bn;exact key _ bn
theorem G6 {ops:Array Oper} (h:rC ops=true):vc ops:=by
 unfold rC at h;simp only [ai4,al4] at h;have iE:=L8 (ops:=ops) ops.toList [] bc (by intro i j h;simp [rB,nth] at h);have one:∀ j y,ops[j]? = some y→(∀ k,rv ops j k→k<j)∧(∀ d,y.dst=some d→d∉looks ops y) ∧
   (∀ i x,i<j→ops[i]? = some x→(∀ d,x.dst=some d→y.dst≠some d)∧(Dy ops x y=true→lL ops j i)):=by
  intro j y ar;have aK:j<ops.size:=(t6.1 ar).1;have:=h j aK;simp only [ar,d6,ai4,al4] at this;obtain ⟨⟨U,ad⟩,aj⟩:=this;refine ⟨fun k ax=>?_,fun d aA=>?_,fun i x aQ aa=>?_⟩
  ·have:=U k ((Dz ar).2 ax)
   simpa [as4] using this
  ·rw [aA] at ad;simpa using ad
  ·have:=aj i aQ
   simp only [aa,d6] at this;obtain ⟨g1,g2⟩:=this;refine ⟨fun d aA cH=>?_,fun aw=>?_⟩
   ·rw [aA,cH] at g1;simp at g1
   ·rw [aw] at g2
    exact iE j i (by simpa using g2)
 refine ⟨fun i j x y d aa ar AY L9=>?_,fun i j x y d cN aa ar AY aE=>?_,fun i j aA=>?_,fun i x d aa aA=>(one i x aa).2.1 d aA⟩
 ·rcases av9 i j with au|he|wS
  ·exact absurd L9 (((one j y ar).2.2 i x au aa).1 d AY)
  ·exact he
  ·exact absurd AY (((one i x aa).2.2 j y wS ar).1 d L9)
 ·rcases av9 i j with au|he|wS
  ·exact .inr (((one j y ar).2.2 i x au aa).2 (by simp [Dy,AY,aE]))
  ·exact absurd he cN
  ·exact .inl (((one i x aa).2.2 j y wS ar).2 (by simp [Dy,AY,aE]))
 ·obtain ⟨o,e,ai,-⟩:=id aA
  exact (one i o ai).1 j aA
def xd (Γ:cz) (N:Nat) (ops:Array Oper) (E:Env) (o:Oper):Option (Nat×ag):=
  match o.dst with
  | none=>none
  | some d=>match af' d N with
    | false=>none
    | true=>match guardOf ops E o with
      | some true=>match sw Γ o E with
        | some v=>some (d,v)
        | none=>none
      | some false=>some (d,.bW [])
      | none=>none
def AZ (Γ:cz) (N:Nat) (ops:Array Oper):List Oper→Env→List Oper×Env
  | [],env=>([],env)
  | o::l,env=>match xd Γ N ops env o with
    | some (d,v)=>AZ Γ N ops l ((d,v)::env)
    | none=>(o::l,env)
theorem DA {J:ao→Prop} {P:Program} {Γ:cz} {N:Nat} {ops:Array Oper} {E:Env} {o:Oper} {d:Nat} {v:ag} (h:xd Γ N ops E o=some (d,v)):o.dst=some d∧d<N∧Still J P Γ N ops o E v:=by
 unfold xd at h;split at h
 ·cases h
 ·rename_i db aA
  split at h
  ·cases h
  ·rename_i a1
   split at h
   ·rename_i ay
    split at h
    ·rename_i ga aD;cases h;exact ⟨aA,by simpa [as4] using a1,.inl ⟨ay,.a aD⟩⟩
    ·cases h
   ·rename_i ay;cases h;exact ⟨aA,by simpa [as4] using a1,.inr (.inl ⟨ay,rfl⟩)⟩
   ·cases h
section
variable {P:Program} {Γ:cz} {N:Nat} {ops:Array Oper} {Q:b8→Env→ao→Prop} {env:Env} {s:ao}
theorem ab.run (aP:bX P Γ) {l kg:List Oper} {e5:Env} (h:AZ Γ N ops l env=(kg,e5)) (ax:ab P N ops kg Q e5 s):ab P N ops l Q env s:=by
 induction l generalizing env with
 | nil=>simp only [AZ,Prod.mk.injEq] at h;obtain ⟨rfl,rfl⟩:=h;exact ax
 | cons o l a8=>
  simp only [AZ] at h;split at h
  ·rename_i d v aN
   obtain ⟨aA,a1,al⟩:=DA (J:=oi) (P:=P) aN;have qG:af' d N=true:=by simpa [as4] using a1
   rcases al with ⟨ay,aD⟩|⟨ay,rfl⟩|⟨ay,aD⟩
   ·exact ab.pure aP ay aA qG aD (a8 h)
   ·exact ab.skip ay aA qG (a8 h)
   ·exact ab.op ay aA qG (aD s trivial) (fun x an ⟨U,ad⟩=>by subst U;subst ad;exact a8 h) (fun _ _ h=>h.elim)
  ·simp only [Prod.mk.injEq] at h;obtain ⟨rfl,rfl⟩:=h;exact ax
theorem ab.DB {l:List Oper} (t:Nat) {v ga:ag} (aD:env.get? t=some v) (he:v=ga) (h:ab P N ops l Q ((t,ga)::env) s):ab P N ops l Q env s:=by
 subst he;intro k ax ro B a w p aI
 exact h k ax ro B a w p ⟨aI.size,fun u x aa=>by
  simp only [Env.get?] at aa
  split at aa
  ·rename_i aq;have:=ai3 aq;subst this;cases aa;exact aI.env _ _ aD
  ·exact aI.env u x aa,aI.wf,aI.defs,aI.round,aI.base⟩
theorem ab.fM {l:List Oper} (t:Nat) {b:Bool} (aD:env.get? t=some (.bool b)) (he:b=true) (h:ab P N ops l Q ((t,.bool true)::env) s):ab P N ops l Q env s:=ab.DB t aD (ak5 ag.bool he) h
theorem ab.eP {l:List Oper} (t:Nat) {b:Bool} (aD:env.get? t=some (.bool b)) (he:b=false) (h:ab P N ops l Q ((t,.bool false)::env) s):ab P N ops l Q env s:=ab.DB t aD (ak5 ag.bool he) h
theorem ab.drop {l:List Oper} (an:ao) (al:ao.Sub an s) (h:ab P N ops l Q env an):ab P N ops l Q env s:=
 fun k ax ro B a w p aI=>AD (fun _ _ _ (q:kx N B ro an w p Q _ _ _)=>let ⟨x,e5,eM,bg,U,ad,aj,bk,bF⟩:=q;⟨x,e5,eM,bg,U,ad,aj,bk,bF.yI al⟩) _ _ _ (h k ax ro B a w p (aI.Gs al))
end
def cA (m:Nat):Nat→Bool:=fun i=>m.testBit i
theorem rD (m i:Nat):dT (cA m) i=cA (m|||2^i):=by
 funext j;unfold dT cA;rw [aq8,ap9];by_cases e:j=i
 ·subst e;simp
 ·have e':¬ i=j:=fun h=>e h.symm
  simp [e,e']
def kR (ops:Array Oper) (m i:Nat):Bool:=match ops[i]? with
 | none=>false
 | some o => !(m.testBit i)&&(xa o).all fun j=>m.testBit j
theorem ve {ops:Array Oper} {m i:Nat}:kR ops m i=true↔hJ ops (cA m) i:=by
 unfold kR hJ cA;constructor
 ·intro h
  split at h
  ·cases h
  ·rename_i o ai
   simp only [d6,aj7,ai4] at h;exact ⟨(t6.1 ai).1,h.1,fun j aK=>h.2 j ((Dz ai).2 aK)⟩
 ·rintro ⟨U,ad,aj⟩
  have ai:ops[i]? = some ops[i]:=au6 U;rw [ai];simp only [ad,Bool.not_false,i8,ai4];exact fun j aK=>aj j ((Dz ai).1 aK)
def fA (ops:Array Oper) (m:Nat):List Nat→List Nat
  | []=>[]
  | i::is=>match kR ops m i with
    | true=>i::fA ops m is
    | false=>fA ops m is
theorem DC {ops:Array Oper} {m i:Nat} {l:List Nat} (h:hJ ops (cA m) i) (aQ:i∈l):i∈fA ops m l:=by
 induction l with
 | nil=>cases aQ
 | cons j l a8=>
  simp only [fA];rcases ai1.1 aQ with rfl|aQ
  ·rw [ve.2 h];exact g8 ..
  ·split
   ·exact f9 _ (a8 aQ)
   ·exact a8 aQ
def rE (Γ:cz) (N:Nat) (ops:Array Oper):List Nat→Nat→Env→Nat×Env
  | [],m,env=>(m,env)
  | i::is,m,env=>match ops[i]? with
    | none=>rE Γ N ops is m env
    | some o=>match kR ops m i with
      | false=>rE Γ N ops is m env
      | true=>match xd Γ N ops (j3 env (looks ops o)) o with
        | some (d,v)=>match m|||2^i with
          | 0=>rE Γ N ops is 0 ((d,v)::env)
          | k+1=>rE Γ N ops is (k+1) ((d,v)::env)
        | none=>rE Γ N ops is m env
def idxs:Nat→List Oper→List Nat
 | _,[]=>[]
 | k,_::l=>k::idxs (k+1) l
theorem A0 (k:Nat) (l:List Oper):idxs k l=aE' k l.length:=by
 induction l generalizing k with
 | nil=>rfl
 | cons o l a8=>simp [idxs,a8,aF7]
section
variable {J:ao→Prop} {P:Program} {Γ:cz} {N:Nat} {l:List Oper} {Q:b8→Env→ao→Prop} {env:Env} {s:ao} {m:Nat}
theorem bH.runs (cU:J s) {is:List Nat} {hY:Nat} {e5:Env} (h:rE Γ N l.toArray is m env=(hY,e5)) (ax:bH J P Γ N l.toArray Q (cA hY) e5 s):bH J P Γ N l.toArray Q (cA m) env s:=by
 induction is generalizing m env with
 | nil=>simp only [rE,Prod.mk.injEq] at h;obtain ⟨rfl,rfl⟩:=h;exact ax
 | cons i is a8=>
  simp only [rE] at h;split at h
  ·exact a8 h
  ·rename_i o ai
   split at h
   ·exact a8 h
   ·rename_i aC
    split at h
    ·rename_i d v aN
     obtain ⟨aA,a1,al⟩:=DA aN;refine bH.still cU i o d v (ve.1 aC) ai aA a1 al ?_;rw [rD];split at h
     ·rename_i bn;rw [bn];exact a8 h
     ·rename_i k bn;rw [bn];exact a8 h
    ·exact a8 h
theorem bb.runs {is:List Nat} {hY:Nat} {e5:Env} (h:rE Γ N l.toArray is m env=(hY,e5)) (ax:bb P Γ N l.toArray Q (cA hY) e5 s):bb P Γ N l.toArray Q (cA m) env s:=bH.runs trivial h ax
theorem bH.run (cU:J s) {hY:Nat} {e5:Env} (h:rE Γ N l.toArray (idxs 0 l) m env=(hY,e5)) (ax:bH J P Γ N l.toArray Q (cA hY) e5 s):bH J P Γ N l.toArray Q (cA m) env s:=bH.runs cU h ax
theorem bb.run {hY:Nat} {e5:Env} (h:rE Γ N l.toArray (idxs 0 l) m env=(hY,e5)) (ax:bb P Γ N l.toArray Q (cA hY) e5 s):bb P Γ N l.toArray Q (cA m) env s:=bH.runs trivial h ax
theorem bb.done (fI:(idxs 0 l).all (fun i=>m.testBit i)=true) (h:Q .normal env s):bH J P Γ N l.toArray Q (cA m) env s:=by
 refine bH.fin (fun i aQ=>?_) h;simp only [ai4] at fI;refine fI i ?_;rw [A0,aw1];have:i<l.length:=by simpa using aQ
 omega
def m1 (ops:Array Oper) (i:Nat):Bool:=(ak6 ops.size).all fun j=>aj4 j i||(rB (xc ops.toList []) i).testBit j
theorem DD {ops:Array Oper} {i:Nat} (h:m1 ops i=true):∀ j,j<ops.size→j≠i→lL ops i j:=by
 intro j aK cN;simp only [m1,ai4] at h;have:=h j (al4.2 aK);have aq:aj4 j i=false:=by
  cases aq:aj4 j i with
  | false=>rfl
  | true=>exact absurd (ai3 aq) cN
 rw [aq,ak4] at this;refine L8 ops.toList [] (fun i=>by simp) (fun i j h=>?_) i j this;have:rB [] i=0:=by cases i<;>rfl
 rw [this] at h;simp at h
theorem bH.one {i:Nat} {o:Oper} {d:Nat} {K X:ag→ao→Prop} (aC:fA l.toArray m (idxs 0 l)=[i]) (ai:l.toArray[i]? = some o) (aA:o.dst=some d) (a1:af' d N=true)
  (ay:dO l env o) (h:aX P N o (cF l env o) s K X)
  (aK:∀ x an,K x an→J an∨m1 l.toArray i=true) (ax:∀ x an,K x an→bH J P Γ N l.toArray Q (cA (m|||2^i)) ((d,x)::env) an) (aa:∀ x an,X x an→Q (.panic x) [] an):bH J P Γ N l.toArray Q (cA m) env s:=by
 have dc:∀ j,hJ l.toArray (cA m) j→j=i:=fun j aK=>by
  have:=DC aK (l:=idxs 0 l) (by rw [A0,aw1];have:=aK.1;simp at this;omega);rw [aC] at this;simpa using this
 have lk:hJ l.toArray (cA m) i:=by
  have gV:i∈fA l.toArray m (idxs 0 l):=by rw [aC];exact g8 ..
  have:∀ is,i∈fA l.toArray m is→kR l.toArray m i=true:=by
   intro is
   induction is with
   | nil=>intro h;cases h
   | cons j is a8=>
    intro h;simp only [fA] at h;split at h
    ·rename_i aq
     rcases ai1.1 h with rfl|h
     ·exact aq
     ·exact a8 h
    ·exact a8 h
  exact ve.1 (this _ gV)
 refine bH.split (fun _=>K) (fun _=>X) ⟨i,lk.1,lk.2.1⟩ (fun j o' aK cW=>?_) (fun j o' xe cW x an bC=>by have:=dc j xe;subst this;exact (aK x an bC).imp id DD) (fun j o' db aK cW cH x an bC=>?_) (fun j o' aK cW cH x an bC=>?_) (fun j o' aK cW x an jq=>aa x an jq)
 ·have:=dc j aK;subst this
  rw [ai] at cW;cases cW;exact ⟨ay,h,fun db cH=>by rw [aA] at cH;cases cH;simpa [as4] using a1⟩
 ·have:=dc j aK;subst this
  rw [ai] at cW;cases cW;rw [aA] at cH;cases cH;rw [rD];exact ax x an bC
 ·have:=dc j aK;subst this
  rw [ai] at cW;cases cW;rw [aA] at cH;cases cH
theorem bH.y3 {i:Nat} {o:Oper} {K X:ag→ao→Prop} (aC:fA l.toArray m (idxs 0 l)=[i]) (ai:l.toArray[i]? = some o) (aA:o.dst=none)
  (ay:dO l env o) (h:aX P N o (cF l env o) s K X)
  (aK:∀ x an,K x an→J an∨m1 l.toArray i=true) (ax:∀ x an,K x an→bH J P Γ N l.toArray Q (cA (m|||2^i)) env an) (aa:∀ x an,X x an→Q (.panic x) [] an):bH J P Γ N l.toArray Q (cA m) env s:=by
 have dc:∀ j,hJ l.toArray (cA m) j→j=i:=fun j aK=>by
  have:=DC aK (l:=idxs 0 l) (by rw [A0,aw1];have:=aK.1;simp at this;omega);rw [aC] at this;simpa using this
 have au:i<l.toArray.size:=(t6.1 ai).1;have sJ:cA m i=false:=by
  cases aq:cA m i with
  | false=>rfl
  | true=>
   have gV:i∈fA l.toArray m (idxs 0 l):=by rw [aC];exact g8 ..
   have:∀ is,i∈fA l.toArray m is→kR l.toArray m i=true:=by
    intro is
    induction is with
    | nil=>intro h;cases h
    | cons j is a8=>
     intro h;simp only [fA] at h;split at h
     ·rename_i aq
      rcases ai1.1 h with rfl|h
      ·exact aq
      ·exact a8 h
     ·exact a8 h
   have:=(ve.1 (this _ gV)).2.1;rw [aq] at this;cases this
 refine bH.split (fun _=>K) (fun _=>X) ⟨i,au,sJ⟩ (fun j o' aK cW=>?_) (fun j o' xe cW x an bC=>by have:=dc j xe;subst this;exact (aK x an bC).imp id DD) (fun j o' db aK cW cH x an bC=>?_) (fun j o' aK cW cH x an bC=>?_) (fun j o' aK cW x an jq=>aa x an jq)
 ·have:=dc j aK;subst this
  rw [ai] at cW;cases cW;exact ⟨ay,h,fun db cH=>by rw [aA] at cH;cases cH⟩
 ·have:=dc j aK;subst this
  rw [ai] at cW;cases cW;rw [aA] at cH;cases cH
 ·have:=dc j aK;subst this
  rw [ai] at cW;cases cW;rw [rD];exact ax x an bC
theorem bb.one {i:Nat} {o:Oper} {d:Nat} {K X:ag→ao→Prop} (aC:fA l.toArray m (idxs 0 l)=[i]) (ai:l.toArray[i]? = some o) (aA:o.dst=some d) (a1:af' d N=true)
  (ay:dO l env o) (h:aX P N o (cF l env o) s K X)
  (ax:∀ x an,K x an→bb P Γ N l.toArray Q (cA (m|||2^i)) ((d,x)::env) an) (aa:∀ x an,X x an→Q (.panic x) [] an):bb P Γ N l.toArray Q (cA m) env s:=
 bH.one aC ai aA a1 ay h (fun _ _ _ => .inl trivial) ax aa
theorem bb.y3 {i:Nat} {o:Oper} {K X:ag→ao→Prop} (aC:fA l.toArray m (idxs 0 l)=[i]) (ai:l.toArray[i]? = some o) (aA:o.dst=none)
  (ay:dO l env o) (h:aX P N o (cF l env o) s K X)
  (ax:∀ x an,K x an→bb P Γ N l.toArray Q (cA (m|||2^i)) env an) (aa:∀ x an,X x an→Q (.panic x) [] an):bb P Γ N l.toArray Q (cA m) env s:=
 bH.y3 aC ai aA ay h (fun _ _ _ => .inl trivial) ax aa
theorem bb.congr {ops:Array Oper} {D:Nat→Bool} (e:Env) (he:∀ t,e.get? t=env.get? t) (h:bb P Γ N ops Q D e s):bb P Γ N ops Q D env s:=bH.congr e he h
theorem af.sK (J:ao→Prop) (aP:bX P Γ) (hm:P.follows .mixedOrders=true) {id:Nat} (dr:rC l.toArray=true) (h:bH J P Γ N l.toArray Q (cA 0) env s):af P N (.region id l.toArray true) Q env s:=by
 refine af.draw (J:=J) aP hm (G6 dr) ?_;have:cA 0=fun _=>false:=by funext i;simp [cA]
 rw [this] at h;exact h
theorem af.oW (aP:bX P Γ) (hm:P.follows .mixedOrders=true) {id:Nat} (dr:rC l.toArray=true) (h:bb P Γ N l.toArray Q (cA 0) env s):af P N (.region id l.toArray true) Q env s:=by
 refine af.draw (J:=oi) aP hm (G6 dr) ?_;have:cA 0=fun _=>false:=by funext i;simp [cA]
 rw [this] at h;exact h
end
end Go.Proofs.YtimbpjfhekcofaaGreat
