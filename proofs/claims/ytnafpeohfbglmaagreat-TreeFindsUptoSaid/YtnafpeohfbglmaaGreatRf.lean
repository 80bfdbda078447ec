import Derived.Test.YtnafpeohfbglmaaGreatRe
import Derived.WideKeyRuns
set_option linter.unusedVariables false
set_option linter.unusedSimpArgs false
set_option maxRecDepth 100000
set_option maxHeartbeats 4000000
open Array renaming toList_push→ap4
open Bool renaming and_eq_true→f7
open Go.IntKind renaming wrap→H1
open List renaming length_cons→i8,length_nil→ae0,map_append→ac2,map_cons→ac4,map_nil→ae5,mem_singleton→z2
open Option renaming map_none→aq3,map_some→al9
open Go.Result renaming andThen_ok→g9
open Go.Sem renaming run_bind→aa',run_pure→ac5
open Go.Proofs.Tryz renaming prog→d0
namespace Go.cW
def pd (k:IntKind) (xs:List Int):Value := .agg (xs.map (Value.int k)).toArray
def kr (k:IntKind) (xs:List Int):af := .agg (xs.map (af.int k))
structure sb (P:Program) (dY:TypeId) (k:IntKind) (n:Nat):Prop where
 wide:(match P.underlying dY with|some (.array _ _)|some (.struct _)=>true|_=>false)=true
 check:∀ e xs,xs.length=n→∀ w,(Instr.checkKey e 10000 dY (pd k xs)).run P w = .ok () w
 eq:∀ xs ys,xs.length=n→ys.length=n→∀ w,(Op.equal dY (pd k xs) (pd k ys)).run P w = .ok (xs==ys) w
theorem AV {w:World} {p:bT} {k:IntKind} {v:Value}:∀ {xs:List Int},Rel w p v (kr k xs)→v=pd k xs:=by
 intro xs h;cases h with
 | agg cs _ aF=>
 have:∀ {l:List Value} {xs:List Int},bF w p l (xs.map (af.int k))→l=xs.map (Value.int k):=by
  intro l
  induction l with
  | nil=>intro xs h;cases xs with|nil=>rfl|cons x r=>cases h
  | cons v l a6=>
   intro xs h;cases xs with
   | nil=>cases h
   | cons x r=>
    cases h with
    | cons _ _ _ _ U ae=>
    cases U;rw [a6 ae];rfl
 unfold pd;rw [← this aF]
def mC (k:IntKind) (l:List (List Int×af)):List (af×af):=l.map fun e=>(kr k e.1,e.2)
theorem Mn {P:Program} {dY:TypeId} {k:IntKind} {n:Nat} (gO:sb P dY k n) {w:World} {p:bT} {xs:List Int} (ab:xs.length=n):∀ (cM:List MapEntry) (l:List (List Int×af)) (i:Nat),
  lL w p cM (mC k l)→(∀ e∈l,e.1.length=n) →
  match l.find? (fun e=>e.1==xs) with
  | none=>(Instr.findAsking dY (pd k xs) cM i).run P w = .ok none w
  | some e=>∃ j val,(Instr.findAsking dY (pd k xs) cM i).run P w = .ok (some (j,val)) w∧Rel w p val e.2:=by
 intro cM
 induction cM with
 | nil=>
  intro l i aF aB;cases l with
  | nil=>rfl
  | cons e r=>exact absurd aF.1.length (by simp only [mC,ac4,ae5,i8,ae0];omega)
 | cons m cM a6=>
  intro l i aF aB;cases l with
  | nil=>exact absurd aF.1.length (by simp only [mC,ac4,ae5,i8,ae0];omega)
  | cons e r=>
   obtain ⟨xS,sU⟩:=aF;simp only [mC,ac4] at xS sU;cases xS with|cons _ _ _ _ aD sV=>cases sU with|cons _ _ _ _ av qt=>
   have he:=AV aD;have bq:=gO.eq xs e.1 ab (aB e List.mem_cons_self) w;rw [← he] at bq;have aA:(xs==e.1)=(e.1==xs):=by rw [Bool.eq_iff_iff,beq_iff_eq,beq_iff_eq];exact ⟨fun h=>h.symm,fun h=>h.symm⟩
   rw [aA] at bq;rw [List.find?_cons];cases aq:e.1==xs with
   | true=>
    rw [aq] at bq;simp only;refine ⟨i,m.val,?_,av⟩;unfold Instr.findAsking;simp only [aa',bq,g9];rfl
   | false=>
    rw [aq] at bq;simp only;have:=a6 r (i+1) ⟨sV,qt⟩ (fun e he=>aB e (List.mem_cons_of_mem _ he));have wm:(Instr.findAsking dY (pd k xs) (m::cM) i).run P w=(Instr.findAsking dY (pd k xs) cM (i+1)).run P w:=by
     conv=>lhs;unfold Instr.findAsking
     simp only [aa',bq,g9];rfl
    rw [wm];exact this
section
variable {P:Program} {Γ:cz} {N:Nat} {env:Env} {s:ao} {o:Oper} {d:Nat} {ops:Array Oper} {rest:List Oper} {Q:b8→Env→ao→Prop} {L R:a'} {l:List Oper} {i:Nat} {J:ao→Prop}
theorem a7.yA (aP:bQ P Γ) {t dY e0:TypeId} {x y:Operand} {ok:Bool} {it aG:bN} {b n:Nat} {k:IntKind} {es:List (List Int×af)} {xs:List Int} {z:af} (gO:sb P dY k n) (ah:o.op = .lookup t x y ok)
  (aN:Γ.get? t=some it) (bs:it.bG = .map dY e0) (bI:Γ.get? e0=some aG) (ab:aL env x=some (.map b)) (ay:aL env y=some (kr k xs)) (az:xs.length=n) (p7:∀ e∈es,e.1.length=n)
  (au:s b=some (.map (mC k es))) (bO:hC aG.zero=some z) {X:af→ao→Prop} :
  a7 P N o env s (fun x al=>x=lP ok z ((es.find? fun e=>e.1==xs).map (·.2))∧al=s) X:=by
 refine a7.ky jf fun ro B a w p aI=>?_
 obtain ⟨info,wD,U,ae,an,-⟩:=aP.parts aN;obtain ⟨jU,kA,E3,zA,QZ,-,-,E4⟩:=aP.parts bI;have ax:wD = .map dY e0:=by rw [bs] at an;cases wD<;>simp [ez] at an;rw [an.1,an.2]
 subst ax;have aF:=aI.aL ab;have kB:=AV (aI.aL ay);generalize eA:a.eval x=dX at aF;cases aF;have E5:(zeroValue e0).run P w = .ok aG.zero w:=by simp [zeroValue,typeInfo,E3,E4]
 obtain ⟨cM,clock,g1,g2,-⟩:=aI.wf.obj _ _ au;have aZ:=Mn gO az cM.toList es 0 g2 p7;have E7:∃ val,(Instr.lookup t (.map (some b)) (a.eval y) ok).run P w = .ok val w∧Rel w p val (lP ok z ((es.find? fun e=>e.1==xs).map (·.2))):=by
  unfold Instr.lookup;rw [kB];simp only [aa',run_underlying ae,g9,xT g1 C,ac5,gO.check _ xs az,run_findKey_eq w gO.wide];cases gp:es.find? fun e=>e.1==xs with
  | none=>
   rw [gp] at aZ;simp only at aZ;simp only [aZ,g9,aa',E5,ac5,lP,aq3];cases ok
   ·exact ⟨_,rfl,qp bO⟩
   ·exact ⟨_,rfl,.cu _ _ (.cons _ _ _ _ (qp bO) (.cons _ _ _ _ (.bool _) .nil))⟩
  | some e=>
   rw [gp] at aZ;obtain ⟨j,val,ek,dj⟩:=aZ;simp only [ek,g9,ac5,lP,al9];cases ok
   ·exact ⟨_,rfl,dj⟩
   ·exact ⟨_,rfl,.cu _ _ (.cons _ _ _ _ dj (.cons _ _ _ _ (.bool _) .nil))⟩
 obtain ⟨val,cN,eR⟩:=E7;refine ⟨val,w,s,p,_,?_,.refl w p,.refl s w p,aI.wf,⟨rfl,rfl⟩,eR⟩;unfold execOp;rw [ah];simp only [eA];exact gV cN
theorem a7.AW (aP:bQ P Γ) {t dY e0:TypeId} {x y z:Operand} {it:bN} {b n:Nat} {k:IntKind} {es:List (List Int×af)} {xs:List Int} {v:af} (gO:sb P dY k n) (ah:o.op = .mapUpdate t x y z∨o.op = .insert t x y z)
  (aN:Γ.get? t=some it) (bs:it.bG = .map dY e0) (ab:aL env x=some (.map b)) (ay:aL env y=some (kr k xs)) (bO:aL env z=some v) (az:xs.length=n) (p7:∀ e∈es,e.1.length=n)
  (au:s b=some (.map (mC k es))) (zB:es.find? (fun e=>e.1==xs)=none) {X:af→ao→Prop} :
  a7 P N o env s (fun _ al=>al=s.set b (.map (mC k (es++[(xs,v)])))) X:=by
 refine a7.E1 (by rcases ah with ah|ah<;>simp [gJ,ah]) fun ro B a w p aI=>?_
 obtain ⟨info,wD,U,ae,an,-⟩:=aP.parts aN;have ax:wD = .map dY e0:=by rw [bs] at an;cases wD<;>simp [ez] at an;rw [an.1,an.2]
 subst ax;have aF:=aI.aL ab;have Mo:=aI.aL ay;have kB:=AV Mo;have E9:=aI.aL bO;obtain ⟨cM,clock,g1,g2,g3,g4⟩:=aI.wf.obj _ _ au;generalize eA:a.eval x=dX at aF;cases aF;have aZ:=Mn gO az cM.toList es 0 g2 p7;rw [zB] at aZ;simp only at aZ;have cN:(Instr.mapUpdate t (.map (some b)) (a.eval y) (a.eval z)).run P w = .ok () { w with heap:=w.heap.setIfInBounds b (.map (cM.push { key:=a.eval y,val:=a.eval z,born:=clock }) (clock+1)) }:=by
  unfold Instr.mapUpdate;rw [kB];simp only [aa',run_underlying ae,g9,xT g1 C,gO.check _ xs az,run_findKey_eq w gO.wide,aZ];simp [setObj,Sem.run,g1]
 have VJ:∀ w',(Instr.mapUpdate t (.map (some b)) (a.eval y) (a.eval z)).run P w = .ok () w'→(execOp a.eval o).run P w = .ok .skip w':=by
  intro w' hw;unfold execOp;rcases ah with ah|ah<;>rw [ah]<;>simp only [eA]<;>simp only [aa',hw,g9,ac5]
 have eR:lL w p (cM.push { key:=a.eval y,val:=a.eval z,born:=clock }).toList (mC k (es++[(xs,v)])):=by
  unfold mC;rw [ap4,ac2];exact ⟨by rw [ac2,ac2];exact g2.1.append (.cons _ _ _ _ Mo .nil),by rw [ac2,ac2];exact g2.2.append (.cons _ _ _ _ E9 .nil)⟩
 obtain ⟨cA,db,fe⟩:=E8 aI.wf au (mes':=cM.push { key:=a.eval y,val:=a.eval z,born:=clock }) (clock':=clock+1) eR
  (by intro e he;simp only [ap4,List.mem_append,z2] at he;rcases he with he|rfl;have:=g3 e he;omega;simp)
  (by
   simp only [ap4,ac2,ac4,ae5]
   rw [List.nodup_append]
   refine ⟨g4,by simp,?_⟩
   intro x ab y ay e
   simp only [z2] at ay
   obtain ⟨m,hm,rfl⟩:=List.mem_map.1 ab
   have:=g3 m hm
   omega) _ C
 exact ⟨_,_,p,VJ _ cN,cA,db,fe,rfl⟩
theorem aJ.yA (aP:bQ P Γ) (I:Ok s L) {t dY e0:TypeId} {x y:Operand} {AX:Bool} {it aG:bN} {b n:Nat} {k:IntKind} {es:List (List Int×af)} {xs:List Int} {z:af} (gO:sb P dY k n) (aw:c9 l env o) (ax:o.dst=some d) (aW:Nat.blt d N=true) (ah:o.op = .lookup t x y AX)
  (aN:Γ.get? t=some it) (bs:it.bG = .map dY e0) (bI:Γ.get? e0=some aG) (ab:aL (b4 l env o) x=some (.map b)) (ay:aL (b4 l env o) y=some (kr k xs)) (az:xs.length=n) (p7:∀ e∈es,e.1.length=n)
  (au:bp L (.own b) (.map (mC k es)) R) (bO:hC aG.zero=some z)
  (h:aJ (fun al=>al=aT s L) P Γ N l (i+1) rest Q ((d,lP AX z ((es.find? fun e=>e.1==xs).map (·.2)))::env) (aT s L)):aJ (fun al=>al=aT s L) P Γ N l i (o::rest) Q env (aT s L):=
 aJ.calm aw ax aW (fun _ e=>by subst e;exact a7.yA aP gO ah aN bs bI ab ay az p7 (au.get I) bO) h
theorem aa.yA (aP:bQ P Γ) (I:Ok s L) {t dY e0:TypeId} {x y:Operand} {AX:Bool} {it aG:bN} {b n:Nat} {k:IntKind} {es:List (List Int×af)} {xs:List Int} {z:af} (gO:sb P dY k n) (aw:guardOf ops env o=some true) (ax:o.dst=some d) (aW:Nat.blt d N=true) (ah:o.op = .lookup t x y AX)
  (aN:Γ.get? t=some it) (bs:it.bG = .map dY e0) (bI:Γ.get? e0=some aG) (ab:aL env x=some (.map b)) (ay:aL env y=some (kr k xs)) (az:xs.length=n) (p7:∀ e∈es,e.1.length=n)
  (au:bp L (.own b) (.map (mC k es)) R) (bO:hC aG.zero=some z)
  (h:aa P N ops rest Q ((d,lP AX z ((es.find? fun e=>e.1==xs).map (·.2)))::env) (aT s L)):aa P N ops (o::rest) Q env (aT s L):=
 aa.op aw ax aW (a7.yA aP gO ah aN bs bI ab ay az p7 (au.get I) bO (X:=fun _ _=>False)) (fun x al ⟨U,ae⟩=>by subst U;subst ae;exact h) (fun _ _ h=>h.elim)
theorem aJ.AW (aP:bQ P Γ) (I:Ok s L) {t dY e0:TypeId} {x y z:Operand} {it:bN} {b n:Nat} {k:IntKind} {es:List (List Int×af)} {xs:List Int} {v:af} (gO:sb P dY k n) (aw:c9 l env o) (ax:o.dst=none) (l2:kE l.toArray i=true) (ah:o.op = .mapUpdate t x y z∨o.op = .insert t x y z)
  (aN:Γ.get? t=some it) (bs:it.bG = .map dY e0) (ab:aL (b4 l env o) x=some (.map b)) (ay:aL (b4 l env o) y=some (kr k xs)) (bO:aL (b4 l env o) z=some v) (az:xs.length=n) (p7:∀ e∈es,e.1.length=n)
  (au:bp L (.own b) (.map (mC k es)) R) (zB:es.find? (fun e=>e.1==xs)=none)
  (h:Ok s ((.own b,.map (mC k (es++[(xs,v)])))::R)→Q .normal env (aT s ((.own b,.map (mC k (es++[(xs,v)])))::R))):aJ J P Γ N l i [o] Q env (aT s L):=
 aJ.Gp aw ax l2 (a7.AW aP gO ah aN bs ab ay bO az p7 (au.get I) zB (X:=fun _ _=>False)) (fun x al U=>by
  obtain ⟨cb,b1⟩:=au.put (.map (mC k (es++[(xs,v)]))) I
  rw [U,cb];exact h b1) (fun _ _ h=>h.elim)
end
end Go.cW
namespace Go.Proofs.YtnafpeohfbglmaaGreat
open Go.cW Go.dv
theorem four {xs:List Int} (h:xs.length=4):∃ a b c d,xs=[a,b,c,d]:=by
 match xs,h with
 | [a,b,c,d],_=>exact ⟨a,b,c,d,rfl⟩
theorem two {xs:List Int} (h:xs.length=2):∃ a b,xs=[a,b]:=by
 match xs,h with
 | [a,b],_=>exact ⟨a,b,rfl⟩
theorem Mp {T e:TypeId} {k:IntKind} {info:TypeInfo} (hu:(d0).underlying T=some (.array 2 e)) (aQ:(d0).info? e=some info) (aA:(d0).cellsOf e=1) (he:(d0).underlying e=some (.int k))
  (aE:∀ (a b:Int) (w:World),(part e #[.int k a,.int k b] 0).run d0 w = .ok (.int k a) w∧(part e #[.int k a,.int k b] 1).run d0 w = .ok (.int k b) w) (d:Nat) (a b da aX:Int) (w:World) :
  (Op.equalIn (d+2) T (.agg #[.int k a,.int k b]) (.agg #[.int k da,.int k aX])).run d0 w = .ok ([a,b]==[da,aX]) w:=by
 rw [show d+2=(d+1)+1 from rfl,run_equalIn_array w _ _ _ hu aQ,aA];have bq:∀ a b:Int,(Op.equalIn (d+1) e (.int k a) (.int k b)).run d0 w = .ok (a==b) w:=fun a b=>run_equalIn_int w d e k k a b he
 simp only [show List.range 2=[0,1] from rfl,Op.eqItems,aa',Nat.zero_mul,Nat.one_mul,(aE a b w).1,(aE a b w).2,(aE da aX w).1,(aE da aX w).2,g9,bq];cases U:a==da<;>cases ae:b==aX<;>simp_all
theorem Mq:sb d0 319 .i64 4:=by
 refine ⟨by kernel_rfl,fun e xs ab w=>?_,fun xs ys ab ay w=>?_⟩
 ·obtain ⟨a,b,c,d,rfl⟩:=four ab
  kernel_rfl
 ·obtain ⟨a,b,c,d,rfl⟩:=four ab
  obtain ⟨da,aX,o0,c6,rfl⟩:=four ay;have au:(d0).underlying 319 = some (.struct ((d0).fieldsOf 319)):=by kernel_rfl
  have aE:(d0).stoodInHeld 319 = false:=by kernel_rfl
  have aZ:((d0).fieldsOf 319).toList=[{ name := "arg", type := 3, offset:=0,embedded:=false,tag := "", pkgPath := "consort/fact", byteOffset:=0 },{ name := "many", type := 3, offset:=1,embedded:=false,tag := "", pkgPath := "consort/fact", byteOffset:=8 },{ name := "path", type := 317, offset:=2,embedded:=false,tag := "", pkgPath := "consort/fact", byteOffset:=16 }]:=by kernel_rfl
  have hint:(d0).underlying 3 = some (.int .i64):=by kernel_rfl
  obtain ⟨info,aQ⟩:=info_of_underlying hint;have k5:∀ a b c d:Int,(part 3 #[.int .i64 a,.int .i64 b,.int .i64 c,.int .i64 d] 0).run d0 w = .ok (.int .i64 a) w:=fun a b c d=>by kernel_rfl
  have Dt:∀ a b c d:Int,(part 3 #[.int .i64 a,.int .i64 b,.int .i64 c,.int .i64 d] 1).run d0 w = .ok (.int .i64 b) w:=fun a b c d=>by kernel_rfl
  have VK:∀ a b c d:Int,(part 317 #[.int .i64 a,.int .i64 b,.int .i64 c,.int .i64 d] 2).run d0 w = .ok (.agg #[.int .i64 c,.int .i64 d]) w:=fun a b c d=>by kernel_rfl
  have AY:=Mp (T := 317) (e := 3) (k := .i64) fC aQ fC hint (fun a b w=>⟨by kernel_rfl,by kernel_rfl⟩) 9997 c d o0 c6 w;have av:∀ a b c d:Int,pd .i64 [a,b,c,d] = .agg #[.int .i64 a,.int .i64 b,.int .i64 c,.int .i64 d]:=fun _ _ _ _=>rfl
  have bq:∀ a b:Int,(Op.equalIn 9999 3 (.int .i64 a) (.int .i64 b)).run d0 w = .ok (a==b) w:=fun a b=>run_equalIn_int w 9998 3 .i64 .i64 a b hint
  have AY:(Op.equalIn 9999 317 (.agg #[.int .i64 c,.int .i64 d]) (.agg #[.int .i64 o0,.int .i64 c6])).run d0 w = .ok ([c,d]==[o0,c6]) w:=AY;rw [av,av];unfold Op.equal;rw [show Op.maxDepth=9999+1 from rfl,run_equalIn_struct w _ _ _ _ au aE,aZ];simp only [Op.eqFields,aa',ne_eq,reduceCtorEq,not_false_eq_true,if_true,k5,Dt,VK,g9,bq,AY];cases U:a==da<;>cases ae:b==aX<;>cases an:c==o0<;>cases bd:d==c6<;>simp_all
end Go.Proofs.YtnafpeohfbglmaaGreat
namespace Go.dv
structure dp where
 low:Int
 high:Int
 e2:List Int
 fU:Nat
 no:Nat
 whole:Bool
 gB:Bool
 bl:List Int
def iX:dp:=⟨-1000000000,1000000000,[],0,0,false,false,[]⟩
def bw (arg:Int) (path:List Int):List Int:=[arg,(path.length:Int),path.getD 0 0,path.getD 1 0]
def m8 (s:Int) (l:List Int):List Int:=if l.contains s then l else (l++[s]).mergeSort (fun a b=>decide (a≤b))
def dp.need (k:dp) (neg:Bool):dp:={ k with gB:=k.gB || !neg }
def dp.slot (k:dp) (s:Int):dp:={ k with bl:=m8 s k.bl }
def dp.ask (k:dp) (x:cg):dp:=
 if x.1.op=2 then (if x.2 then { k with no:=k.no|||2^x.1.cls.toNat } else { k with fU:=k.fU|||2^x.1.cls.toNat })
 else if x.1.op=3 then (if x.2 then { k with low:=max k.low x.1.n } else { k with high:=min k.high (x.1.n-1),whole:=true })
 else if x.2 then { k with e2:=k.e2++[x.1.n] }
 else { k with low:=max k.low x.1.n,high:=min k.high x.1.n,whole:=true }
abbrev ec:=List Int→dp
def ec.hX (σ:ec) (sp:List Int) (k:dp):ec:=fun q=>if q=sp then k else σ q
def gZ (neg:Bool) (arg:Int) (path:List Int):Nat→ec→ec
 | 0,σ=>σ.hX (bw arg []) ((σ (bw arg [])).need neg)
 | j+1,σ=>
  let AZ:=gZ neg arg path j σ
  let here:=bw arg (path.take j)
  let Mr:=AZ.hX here ((AZ here).slot (path.getD j 0))
  let there:=bw arg (path.take (j+1))
  Mr.hX there ((Mr there).need neg)
def addLit (σ:ec) (x:cg):ec:=
 let AZ:=gZ x.2 x.1.arg x.1.path x.1.path.length σ
 let here:=bw x.1.arg x.1.path
 AZ.hX here ((AZ here).ask x)
def w1:ec:=fun _=>iX
def ev (l:List cg):ec:=l.foldl addLit w1
end Go.dv
namespace Go.Proofs.YtnafpeohfbglmaaGreat
open Go.cW Go.dv
def iI (sp:List Int):af:=kr .i64 sp
def h6 (w:bx) (mb:Nat):af := .bA [gn w,.map mb] 0
def kO (k:dp) (e2 bl:af):List af:=[.int .i64 k.low,.int .i64 k.high,e2,.int .u64 (k.fU:Int),.int .u64 (k.no:Int),.bool k.whole,.bool k.gB,bl]
def Ms:List af:=kO iX (.aC 1 [] .nil) (.aC 0 [] .nil)
abbrev SMap:=List (List Int×af)
def q6 (mb:Nat) (es:SMap):bM×dG:=(.own mb,.map (mC .i64 es))
theorem Mt (G5 oj:af) (VL:aS (.aC 0 [] .nil) G5) (vS:aS (.aC 0 [] .nil) oj) (w:bx) (mb:Nat) (es:SMap) (p7:∀ e∈es,e.1.length=4) (hL ek dj dT:Int):bE d0 280 [h6 w mb,iI [hL,ek,dj,dT]] ([q6 mb es]) (fun o K=>(∃ e,es.find? (fun e=>e.1==[hL,ek,dj,dT])=some e∧o = .ret e.2∧K=[q6 mb es])∨(es.find? (fun e=>e.1==[hL,ek,dj,dT])=none∧∃ G6,o = .ret (.ptr G6 0)∧K=[q6 mb (es++[([hL,ek,dj,dT],.ptr G6 0)]),(.own G6,.box 340 (kO iX G5 oj))])):=by
 have aq:=bC;refine bE.bj ai Tryz.func280 C C fun s I=>?_
 unfold q6 at I ⊢;unfold h6;unfold gn e6
 repeat (first|(refine rQ ?_)|refine aa.jL I C C C C C C (fun b I=>?_)|(refine SE I ?_;clear I;intro I))
 refine aJ.yA (xs:=[hL,ek,dj,dT]) ai I Mq C C C C C C C C C C p7 a1 C ?_;cases aZ:es.find? (fun e=>e.1==[hL,ek,dj,dT]) with
 | some e=>
  simp only [al9];refine bZ ?_;exact Fin.bz I C aM aY (.inl ⟨e,rfl,rfl,rfl⟩)
 | none=>
  simp only [aq3]
  repeat (first
   | refine aJ.step C ?_
   | refine aJ.nil ?_)
  repeat (first|(refine rQ ?_)|refine aa.jL I C C C C C C (fun b I=>?_)|(refine SF ?_))
  refine ad.wv I b (kO iX G5 oj) .here (.cons aM (.cons aM (.cons VL (.cons aM (.cons aM (.cons aM (.cons aM (.one vS)))))))) (fun I=>?_);refine tf I ?_;intro I;refine aJ.AW (xs:=[hL,ek,dj,dT]) ai I Mq C C C (.inl C) C C C C C C p7 a1 aZ (fun I=>?_);refine gH ?_;exact Fin.bz I C aM aY (.inr ⟨by first|rfl|trivial,_,rfl,rfl⟩)
theorem Mu (a Du k5 bt:Int):aR d0 281 [iI [a,0,Du,k5],.int .i64 bt] (iI [a,1,bt,k5]):=by
 have aq:=bC;refine aR.bj ai Tryz.func281 C C fun s I=>?_
 unfold iI kr
 repeat (first|(refine rQ ?_)|refine aa.jL I C C C C C C (fun b I=>?_)|refine aa.d' ai I C C C C C C C (fun cy I=>?_)|(refine FI I ?_;clear I;intro I))
 refine aa.arr ai 0 C C C C C C C C C C ag ?_;refine cG I ?_;intro I;exact Fin.cp I (n5 C C (bp.get a1 I) C) aM
theorem Mv (a Du k5 bt:Int):aR d0 281 [iI [a,1,Du,k5],.int .i64 bt] (iI [a,2,Du,bt]):=by
 have aq:=bC;refine aR.bj ai Tryz.func281 C C fun s I=>?_
 unfold iI kr
 repeat (first|(refine rQ ?_)|refine aa.jL I C C C C C C (fun b I=>?_)|refine aa.d' ai I C C C C C C C (fun cy I=>?_)|(refine FI I ?_;clear I;intro I))
 refine aa.arr ai 1 C C C C C C C C C C ag ?_;refine cG I ?_;intro I;exact Fin.cp I (n5 C C (bp.get a1 I) C) aM
def pe (kb:Nat) (k:dp) (on:bM) (oj:af):a':=[(.own kb,.box 340 (kO k (.aC 1 (k.e2.map bb) on) oj)),(on,.row 3 1 k.e2.length)]
structure VM (k:dp):Prop where
 fU:k.fU<2^64
 no:k.no<2^64
 e2:k.e2.length<bu
structure tG (w:bx) (x:cg):Prop where
 n9:gi w x.1=true
 leaf:x.1.cU=true
theorem tG.node {w:bx} {x:cg} (h:tG w x):h3 w x.1=true:=by
 have:=h.n9;rw [m0,f7] at this;exact this.1
theorem tG.num {w:bx} {x:cg} (h:tG w x) : -1000000000≤x.1.n∧x.1.n≤1000000000:=by
 have U:=h.node;simp only [h3,h.leaf,if_true,f7,g8] at U;have p1:=U.2.2.2.2.2.2.2;split at p1
 ·simp at p1;omega
 ·simp [km] at p1;omega
theorem hU.n {P:Program} {Γ:cz} {N:Nat} {l:List Oper} {Q:b8→Env→ao→Prop} {m:Nat} {env:Env} {s:ao}:hU P Γ N l Q m env s []:=trivial
theorem hU.c {P:Program} {Γ:cz} {N:Nat} {l:List Oper} {Q:b8→Env→ao→Prop} {m:Nat} {env:Env} {s:ao} {i:Nat} {is:List Nat} (h:kk P Γ N l Q m env s i) (t:hU P Γ N l Q m env s is):hU P Γ N l Q m env s (i::is):=⟨h,t⟩
theorem VN (w:bx) (hw:w.ps.length≤60) (kb:Nat) (k:dp) (aD:VM k) (eW : -1000000000≤k.low∧k.low≤1000000000 ∧ -1000000001≤k.high∧k.high≤1000000000) (on:bM) (oj:af) (vS:fa oj=true) (x:cg) (ab:tG w x):bE d0 282 [.ptr kb 0,h4 x] (pe kb k on oj) (fun o K=>o = .ret (.cu [])∧∃ w2,K=pe kb (k.ask x) w2 oj):=by
 have aq:=bC;refine bE.bj ai Tryz.func282 C C fun s I=>?_
 obtain ⟨cA,db,fe⟩:=aD;have hF:=wV.of ab.node ab.leaf;have om:=ab.num;have hK:=ab.leaf;obtain ⟨f,neg⟩:=x;simp only at hF om hK;unfold pe at I ⊢;have b5:f.op=2∨f.op=3∨f.op=4:=by
  unfold aj.cU at hK;simp at hK;omega
 unfold kO at I ⊢;unfold h4 pX aj.cells;rcases b5 with ae|ae|ae
 ·obtain ⟨c7,dh⟩:=hF.cls ae
  obtain ⟨c,aA⟩:∃ c:Nat,f.cls=c:=⟨f.cls.toNat,by omega⟩;have Mw:c<64:=by omega
  have k1:=AF k.no c db Mw;have kY:=AF k.fU c cA Mw;have a8:k.ask (f,neg)=if neg then { k with no:=k.no|||2^c } else { k with fU:=k.fU|||2^c }:=by
   unfold dp.ask;rw [f9 ae,aA,Int.toNat_natCast]
  rw [ae,aA];cases neg with
  | true=>
   rw [f9 C] at a8;rw [a8];refine hl I ?_;intro I;exact Fin.bz I C aM aY ⟨rfl,on,rfl⟩
  | false=>
   rw [d9 ba] at a8;rw [a8];refine hl I ?_;intro I;exact Fin.bz I C aM aY ⟨rfl,on,rfl⟩
 ·have a8:k.ask (f,neg)=if neg then { k with low:=max k.low f.n } else { k with high:=min k.high (f.n-1),whole:=true }:=by
   unfold dp.ask;rw [d9 (by simp [ae]),f9 ae]
  rw [ae];cases neg with
  | true=>
   rw [f9 C] at a8;rw [a8];have e:(if f.n>k.low then f.n else k.low)=max k.low f.n:=by omega
   refine hl I ?_;intro I;exact Fin.bz I C aM (by rw [← e];exact aY) ⟨rfl,on,rfl⟩
  | false=>
   rw [d9 ba] at a8;rw [a8];have df:H1 .i64 (f.n-1)=f.n-1:=eo ag ag;have e:(if f.n-1<k.high then f.n-1 else k.high)=min k.high (f.n-1):=by omega
   refine bB ?_;refine ad.qD ai mixed C (bf.run C ?_);refine bf.eC 6 ai I C C C C C C C C a1 b3 ?_;refine bf.run C ?_;refine bf.pure 11 C C C C C (.x C) ?_;refine bf.run C ?_;refine bf.cS 15 ai I C C C C C C C C C C C a1 b3 (fun I=>?_);refine bf.run C ?_;refine bf.cS 18 ai I C C C C C C C C C C C a1 b3 (fun I=>?_);refine bf.run C ?_;refine bf.done C ?_;refine fR ?_;have uZ:Ok s (pe kb { k with high:=(if H1 .i64 (f.n-1)<k.high then H1 .i64 (f.n-1) else k.high),whole:=true } on oj):=I;rw [df,e] at uZ;exact Fin.bz (L:=pe kb { k with high:=(if H1 .i64 (f.n-1)<k.high then H1 .i64 (f.n-1) else k.high),whole:=true } on oj) I C aM (by rw [df,e];exact aH.all _) ⟨rfl,on,rfl⟩
 ·rw [ae]
  cases neg with
  | true=>
   have a8:k.ask (f,true)={ k with e2:=k.e2++[f.n] }:=by
    unfold dp.ask;rw [d9 (by simp [ae]),d9 (by simp [ae]),f9 C]
   rw [a8];refine bB ?_;refine ad.qD ai mixed C (bf.run C ?_);refine bf.eC 5 ai I C C C C C C C C a1 b3 ?_;refine bf.run C ?_;refine bf.gf 10 ai I C C C C C C C C C et C C C C C C C C a1 hc j2 ag (fun A0 I=>?_);refine bf.run C ?_;refine bf.cS 14 ai I C C C C C C C C C C C a1 b3 (fun I=>?_);refine bf.run C ?_;refine bf.done C ?_;refine fR ?_;have eV:pe kb { k with e2:=k.e2++[f.n] } (.own A0) oj=[(.own kb,.box 340 [.int .i64 k.low,.int .i64 k.high,.aC 1 (k.e2.map bb++[.int .i64 f.n]) (.own A0),.int .u64 (k.fU:Int),.int .u64 (k.no:Int),.bool k.whole,.bool k.gB,oj]),(.own A0,.row 3 1 (k.e2.length+1))]:=by
    unfold pe kO;simp [bb]
   exact Fin.bz I C aM (K:=pe kb { k with e2:=k.e2++[f.n] } (.own A0) oj) (by rw [eV];exact aY) ⟨rfl,.own A0,rfl⟩
  | false=>
   have a8:k.ask (f,false)={ k with low:=max k.low f.n,high:=min k.high f.n,whole:=true }:=by
    unfold dp.ask;rw [d9 (by simp [ae]),d9 (by simp [ae]),d9 ba]
   rw [a8];have cb:(if f.n>k.low then f.n else k.low)=max k.low f.n:=by omega
   have b1:(if f.n<k.high then f.n else k.high)=min k.high f.n:=by omega
   refine bB ?_;refine ad.qD ai mixed C (bf.run C ?_);refine bf.many C (hU.c (kk.mk (i:=7) C C C C (a7.eC ai I C C C a1 C (X:=fun _ _=>False)) ?_ (fun _ _ h=>False.elim h)) (hU.c (kk.mk (i:=16) C C C C (a7.eC ai I C C C a1 C (X:=fun _ _=>False)) ?_ (fun _ _ h=>False.elim h)) hU.n))
   ·rintro _ _ ⟨rfl,rfl⟩
    refine bf.pure 11 C C C C C (.x C) ?_;refine bf.run C ?_;refine bf.many C (hU.c (kk.mk (i:=16) C C C C (a7.eC ai I C C C a1 C (X:=fun _ _=>False)) ?_ (fun _ _ h=>False.elim h)) hU.n)
    ·rintro _ _ ⟨rfl,rfl⟩
     refine bf.pure 20 C C C C C (.x C) ?_;refine bf.run C ?_;refine bf.cS 24 ai I C C C C C C C C C C C a1 b3 (fun I=>?_);refine bf.run C ?_;refine bf.cS 28 ai I C C C C C C C C C C C a1 b3 (fun I=>?_);refine bf.run C ?_;refine bf.cS 31 ai I C C C C C C C C C C C a1 b3 (fun I=>?_);refine bf.run C ?_;refine bf.done C ?_;refine fR ?_;exact Fin.bz I C aM (by rw [← cb,← b1];exact aY) ⟨rfl,on,rfl⟩
   ·rintro _ _ ⟨rfl,rfl⟩
    refine bf.pure 20 C C C C C (.x C) ?_;refine bf.run C ?_;refine bf.many C (hU.c (kk.mk (i:=7) C C C C (a7.eC ai I C C C a1 C (X:=fun _ _=>False)) ?_ (fun _ _ h=>False.elim h)) hU.n)
    ·rintro _ _ ⟨rfl,rfl⟩
     refine bf.pure 11 C C C C C (.x C) ?_;refine bf.run C ?_;refine bf.cS 24 ai I C C C C C C C C C C C a1 b3 (fun I=>?_);refine bf.run C ?_;refine bf.cS 28 ai I C C C C C C C C C C C a1 b3 (fun I=>?_);refine bf.run C ?_;refine bf.cS 31 ai I C C C C C C C C C C C a1 b3 (fun I=>?_);refine bf.run C ?_;refine bf.done C ?_;refine fR ?_;exact Fin.bz I C aM (by rw [← cb,← b1];exact aY) ⟨rfl,on,rfl⟩
end Go.Proofs.YtnafpeohfbglmaaGreat
