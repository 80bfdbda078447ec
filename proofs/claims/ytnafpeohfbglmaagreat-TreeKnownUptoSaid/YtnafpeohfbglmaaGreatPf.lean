import Derived.Test.YtnafpeohfbglmaaGreatPe
import Derived.Shelf.Sort.Plain
import Derived.KernelRfl
set_option linter.unusedVariables false
set_option linter.unusedSimpArgs false
set_option maxRecDepth 100000
set_option maxHeartbeats 4000000
theorem sF {p:Prop} (h:p:=by repeat (first|exact trivial|refine ⟨⟨_,rfl,aR⟩,?_⟩|refine ⟨⟨_,rfl,a8.of_eq (by (rw [e0 (by omega) (by omega),Jj]))⟩,?_⟩)):p:=h
theorem Jk {p:Prop} (h:p:=by repeat (first|exact trivial|refine ⟨⟨_,rfl,aR⟩,?_⟩|refine ⟨⟨_,rfl,a8.of_eq (by (rw [nt (by omega)];rfl))⟩,?_⟩)):p:=h
theorem Jl {p:Prop} (h:p:=by repeat (first|exact trivial|refine ⟨⟨_,rfl,aR⟩,?_⟩|refine ⟨⟨_,rfl,a8.of_eq (by (rw [jc,hw,Jm]))⟩,?_⟩)):p:=h
theorem A6 {p:Prop} (h:p:=by repeat (first|exact au.all _|(apply au.cons;· repeat (first|exact aP.here|apply aP.there)))):p:=h
theorem Ek {p:Prop} (h:p:=by show (σ (b1 arg path)).bx.length-(j+1)<(σ (b1 arg path)).bx.length-j;omega):p:=h
theorem Jn {p:Prop} (h:p:=by rw [List.take_left' (by simp),List.all_map];simp [Function.comp_def,bg,eN]):p:=h
theorem uH {p:Prop} (h:p:=by show l.length-(j+1)<l.length-j;omega):p:=h
theorem A7 {p:Prop} (h:p:=by show (done.length+1)*48≤_;omega):p:=h
theorem nL {p:Prop} (h:p:=by rw [List.length_map];omega):p:=h
theorem sG {p:Prop} (h:p:=by show m<m+1;omega):p:=h
theorem sH {p:Prop} (h:p:=by show c<c+1;omega):p:=h
theorem ot {p:Prop} (h:p:=by simpa using cJ):p:=h
namespace Go.Proofs.YtnafpeohfbglmaaGreat
open Go.Shelf Go.Sort Go.Proofs
def Rc:Go.Shelf.Ren:=⟨fun|189=>276|125=>290|257=>289|128=>303|129=>304|294=>294|295=>295|296=>296|297=>297|298=>298|299=>299|216=>300|300=>301|301=>302|328=>309|329=>310|330=>311|331=>312|332=>313|215=>314|343=>317|n=>n,fun|28=>23|3=>3|46=>303|0=>0|51=>329|53=>104|4=>4|183=>356|182=>355|131=>164|5=>5|9=>9|218=>363|222=>251|228=>368|229=>126|n=>n,fun n=>n⟩
theorem Re:Lays.n189 Tryz.prog Rc where
 mixed:=by kernel_rfl
 f125 := Tryz.func290.trans (congrArg some aq)
 f128 := Tryz.func303.trans (congrArg some aq)
 f129 := Tryz.func304.trans (congrArg some aq)
 f189 := Tryz.func276.trans (congrArg some aq)
 f215 := Tryz.func314.trans (congrArg some aq)
 f216 := Tryz.func300.trans (congrArg some aq)
 f257 := Tryz.func289.trans (congrArg some aq)
 f294 := Tryz.func294.trans (congrArg some aq)
 f295 := Tryz.func295.trans (congrArg some aq)
 f296 := Tryz.func296.trans (congrArg some aq)
 f297 := Tryz.func297.trans (congrArg some aq)
 f298 := Tryz.func298.trans (congrArg some aq)
 f299 := Tryz.func299.trans (congrArg some aq)
 f300 := Tryz.func301.trans (congrArg some aq)
 f301 := Tryz.func302.trans (congrArg some aq)
 f328 := Tryz.func309.trans (congrArg some aq)
 f329 := Tryz.func310.trans (congrArg some aq)
 f330 := Tryz.func311.trans (congrArg some aq)
 f331 := Tryz.func312.trans (congrArg some aq)
 f332 := Tryz.func313.trans (congrArg some aq)
 f343 := Tryz.func317.trans (congrArg some aq)
 t0 := Tryz.underlying0
 a0 := Tryz.isAgg0
 z0 := Tryz.sizeOf0
 v0 := Tryz.zeroValue0
 t3 := Tryz.underlying3
 a3 := Tryz.isAgg3
 z3 := Tryz.sizeOf3
 v3 := Tryz.zeroValue3
 t4 := Tryz.underlying4
 a4 := Tryz.isAgg4
 z4 := Tryz.sizeOf4
 v4 := Tryz.zeroValue4
 t5 := Tryz.underlying5
 a5 := Tryz.isAgg5
 z5 := Tryz.sizeOf5
 v5 := Tryz.zeroValue5
 t9 := Tryz.underlying9
 a9 := Tryz.isAgg9
 z9 := Tryz.sizeOf9
 v9 := Tryz.zeroValue9
 t28 := Tryz.underlying23
 a28 := Tryz.isAgg23
 z28 := Tryz.sizeOf23
 v28 := Tryz.zeroValue23
 t46 := Tryz.underlying303
 a46 := Tryz.isAgg303
 z46 := Tryz.sizeOf303
 v46 := Tryz.zeroValue303
 t51 := Tryz.underlying329
 a51 := Tryz.isAgg329
 z51 := Tryz.sizeOf329
 v51 := Tryz.zeroValue329
 t53 := Tryz.underlying104
 a53 := Tryz.isAgg104
 z53 := Tryz.sizeOf104
 v53 := Tryz.zeroValue104
 t131 := Tryz.underlying164
 a131 := Tryz.isAgg164
 z131 := Tryz.sizeOf164
 v131 := Tryz.zeroValue164
 t182 := Tryz.underlying355
 a182 := Tryz.isAgg355
 z182 := Tryz.sizeOf355
 v182 := Tryz.zeroValue355
 t183 := Tryz.underlying356
 a183 := Tryz.isAgg356
 z183 := Tryz.sizeOf356
 v183 := Tryz.zeroValue356
 t218 := Tryz.underlying363
 a218 := Tryz.isAgg363
 z218 := Tryz.sizeOf363
 v218 := Tryz.zeroValue363
 t222 := Tryz.underlying251
 a222 := Tryz.isAgg251
 z222 := Tryz.sizeOf251
 v222 := Tryz.zeroValue251
 t228 := Tryz.underlying368
 a228 := Tryz.isAgg368
 z228 := Tryz.sizeOf368
 v228 := Tryz.zeroValue368
 t229 := Tryz.underlying126
 a229 := Tryz.isAgg126
 z229 := Tryz.sizeOf126
 v229 := Tryz.zeroValue126
theorem Rf (p3 off cap:Nat) (a1:List Int) (w:World) (Dv:Holds (Value.int .i64) w p3 off a1.toArray) (Rg:p3<w.heap.size) (b7:a1.length<4611686018427387904) :
  Calls Tryz.prog 276 #[.slice (some ⟨p3,off,none⟩) a1.length cap] w fun e w'=>
   e = .returned (.tuple #[])∧∃ n os,w'=grow (putRow (Value.int .i64) (Sort.ahead w n) p3 off (a1.mergeSort fun x y=>decide (x≤y)).toArray) os:=
 Any.slices_Sort_int Re p3 off cap a1 w Dv Rg b7
end Go.Proofs.YtnafpeohfbglmaaGreat
namespace Go.Proofs.YtnafpeohfbglmaaGreat
open Go.bj Go.bY
theorem Rh (w:World) (p:bN) (v:Value) (a:Int) (h:Rel w p v (.int .i64 a)):v = .int .i64 a:=by cases h;rfl
theorem El (b cap:Nat) (l:List Int) (rest:List ad) (aI:l.length<4611686018427387904) :
  bu Tryz.prog 276 [dG b l.length cap] [(.own b,.box 3 (l.map bg++rest))] (fun o K=>o = .ret (.cl [])∧K=[(.own b,.box 3 ((l.mergeSort fun x y=>decide (x≤y)).map bg++rest))]):=
 bu.sort (α:=Int) (enc:=Value.int .i64) (encA:=bg) (le:=fun x y=>decide (x≤y)) call276 Rh (fun w p a => .int _ _) Rf b cap l rest aI
end Go.Proofs.YtnafpeohfbglmaaGreat
namespace Go.bj
theorem aP.yC {L:a6} {k:bU} {o:db} {a b:a6} (h:L=a++(k,o)::b):aP L k o (a++b):=by
 subst h;exact aP.app a .here
theorem au.hC:∀ {K L:a6},L.Perm K→au L K []
  | [],L,h=>by
    have:L=[]:=h.eq_nil;subst this;exact .nil
  | (k,o)::K,L,h=>by
    obtain ⟨a,b,hB⟩:=List.append_of_mem (h.symm.subset List.mem_cons_self);refine .cons (aP.yC hB) (au.hC ?_);rw [hB] at h;exact (List.perm_cons _).1 (List.perm_middle.symm.trans h)
theorem Jo (s:aj) (L:a6):∀ (qj:a6),(∀ x∈qj,x.1 = .nil)→aQ s (qj++L)=aQ s L∧(Ok s L→Ok s (qj++L))
  | [],_=>⟨rfl,id⟩
  | (k,o)::qj,h=>by
    have aD:k = .nil:=h (k,o) List.mem_cons_self;subst aD;obtain ⟨U,ae⟩:=Jo s L qj fun x ab=>h x (List.mem_cons_of_mem _ ab)
    exact ⟨U,fun I=>⟨trivial,ae I⟩⟩
theorem bu.frame {P:Program} {f:FuncId} {args:List ad} {K L R:a6} {X3 D:eb→a6→Prop} (h:bu P f args K X3) (aw:au L K R) (tU:∀ o aL,X3 o aL→∃ qj M,(∀ x∈qj,x.1 = .nil)∧(qj++(aL++R)).Perm M∧D o M):bu P f args L D:=
 fun s I=>(h.at I aw).mono fun o ah ⟨PL,e,vR,aL,DL,DM⟩=>by
  subst DL;obtain ⟨qj,M,Ri,aN,dZ⟩:=tU o aL DM;obtain ⟨jQ,A4⟩:=Jo s (aL++R) qj Ri;obtain ⟨U,ae⟩:=(au.hC aN).perm (A4 vR);rw [List.append_nil] at U ae;exact ⟨M,e.trans (jQ.symm.trans U),ae,dZ⟩
end Go.bj
namespace Go.Proofs.YtnafpeohfbglmaaGreat
open Go.bj Go.bY
abbrev qk:=Option (Nat×Nat×List ad)
def mv:qk→List Int→ad
 | none,_ => .aA 0 [] .nil
 | some (g,cap,_),l=>dG g l.length cap
def kJ:qk→List Int→a6
 | none,_=>[]
 | some (g,_,fe),l=>[(.own g,.box 3 (l.map bg++fe))]
def rH:qk→List Int→Prop
 | none,l=>l=[]
 | some (_,cap,fe),l=>l.length+fe.length=cap
structure fk where
 sp:List Int
 b:Nat
 on:bU
 bw:qk
def hM (σ:ec) (e:fk):a6:=nK e.b (σ e.sp) e.on (mv e.bw (σ e.sp).bx)++kJ e.bw (σ e.sp).bx
def lR (es:List fk):SMap:=es.map fun e=>(e.sp,.ptr e.b 0)
def kK (σ:ec) (mb:Nat) (es:List fk):a6:=pr mb (lR es)::es.flatMap (hM σ)
structure lf (n:Nat) (k:fD):Prop where
 gk:k.gk<2^64
 no:k.no<2^64
 e2:k.e2.length≤n
 bx:k.bx.length≤n
 num : -1000000000≤k.low∧k.low≤1000000000 ∧ -1000000001≤k.high∧k.high≤1000000000
structure nM (n:Nat) (σ:ec) (es:List fk):Prop where
 four:∀ e∈es,e.sp.length=4
 nodup:(es.map fk.sp).Nodup
 rest:∀ q,q∉es.map fk.sp→σ q=pj
 bw:∀ e∈es,rH e.bw (σ e.sp).bx
 lg:∀ q,lf n (σ q)
theorem Rk {es:List fk} {sp:List Int}:(lR es).find? (fun e=>e.1==sp)=none↔sp∉es.map fk.sp:=by
 unfold lR;rw [List.find?_eq_none];constructor
 ·intro h hm
  obtain ⟨e,he,rfl⟩:=List.mem_map.1 hm;have:=h _ (List.mem_map.2 ⟨e,he,rfl⟩);simp at this
 ·intro h x ab
  obtain ⟨e,he,rfl⟩:=List.mem_map.1 ab;simp only [beq_iff_eq];intro bZ;exact h (List.mem_map.2 ⟨e,he,bZ⟩)
theorem Rl {es:List fk} {sp:List Int} {x:List Int×ad} (h:(lR es).find? (fun e=>e.1==sp)=some x):∃ e∈es,e.sp=sp∧x=(e.sp,.ptr e.b 0):=by
 unfold lR at h;have U:=List.mem_of_find?_eq_some h;have ae:=List.find?_some h;obtain ⟨e,he,rfl⟩:=List.mem_map.1 U;exact ⟨e,he,by simpa using ae,rfl⟩
theorem Rm (n:Nat):lf n pj:=⟨by decide,by decide,by simp [pj],by simp [pj],by simp [pj]⟩
theorem Jp (w:bT) (mb n:Nat) (σ:ec) (es:List fk) (cW:nM n σ es) (gF dD c1 dn:Int) :
    bu Tryz.prog 280 [hk w mb,hL [gF,dD,c1,dn]] (kK σ mb es) (fun o K=>∃ pre e post,e.sp=[gF,dD,c1,dn]∧o = .ret (.ptr e.b 0)∧K=kK σ mb (pre++e::post)∧nM n σ (pre++e::post)):=by
  have h:=Jf (.aA 1 [] .nil) (.aA 0 [] .nil) (a8.nil jO) aR w mb (lR es) (fun e he=>by
    unfold lR at he
    obtain ⟨x,ab,rfl⟩:=List.mem_map.1 he
    exact cW.four x ab) gF dD c1 dn
  refine bu.frame h (R:=es.flatMap (hM σ)) (.cons .here .nil) ?_;rintro o aL (⟨x,ab,rfl,rfl⟩|⟨ba,b,rfl,rfl⟩)
  · obtain ⟨e,he,U,rfl⟩:=Rl ab
    obtain ⟨pre,post,rfl⟩:=List.append_of_mem he;exact ⟨[],_,by simp,List.Perm.refl _,pre,e,post,U,rfl,rfl,cW⟩
  · have jZ:=Rk.1 ba
    have yn:=cW.rest _ jZ;refine ⟨[(.nil,.row 3 1 0)],kK σ mb (es++[⟨[gF,dD,c1,dn],b,.nil,none⟩]),by simp,?_,es,⟨[gF,dD,c1,dn],b,.nil,none⟩,[],rfl,rfl,rfl,?_⟩
    · have b8:hM σ ⟨[gF,dD,c1,dn],b,.nil,none⟩=[(.own b,.box 340 Je),(.nil,.row 3 1 0)]:=by
        unfold hM;rw [yn];rfl
      unfold kK;rw [List.flatMap_append,List.flatMap_singleton,b8];have bZ:lR (es++[⟨[gF,dD,c1,dn],b,.nil,none⟩])=lR es++[([gF,dD,c1,dn],.ptr b 0)]:=by unfold lR;rw [List.map_append];rfl
      rw [bZ];refine (List.Perm.swap _ _ _).trans (List.Perm.cons _ ((List.Perm.swap _ _ _).trans ?_));exact List.perm_append_comm (l₁:=[(.own b,.box 340 Je),(.nil,.row 3 1 0)]) (l₂:=es.flatMap (hM σ))
    · refine ⟨fun e he=>?_,?_,fun q bs=>cW.rest q (fun hm=>bs (by rw [List.map_append];exact List.mem_append_left _ hm)),fun e he=>?_,cW.lg⟩
      · rcases List.mem_append.1 he with he|he
        · exact cW.four e he
        · rw [List.mem_singleton] at he;subst he;rfl
      · rw [List.map_append,List.nodup_append]
        refine ⟨cW.nodup,by simp,fun a aV b an=>?_⟩;rw [List.map_singleton,List.mem_singleton] at an;subst an;intro e;subst e;exact jZ aV
      · rcases List.mem_append.1 he with he|he
        · exact cW.bw e he
        · rw [List.mem_singleton] at he;subst he
          show (σ _).bx=[];rw [yn];rfl
end Go.Proofs.YtnafpeohfbglmaaGreat
namespace Go.Proofs.YtnafpeohfbglmaaGreat
open Go.bj Go.bY
def sI (g:Nat) (l:List Int) (fe:List ad):a6:=[(.own g,.box 3 (l.map bg++fe))]
theorem Ro (g cap:Nat) (l:List Int) (fe:List ad) (n:Int) (aI:l.length<bt):bu Tryz.prog 92 [dG g l.length cap,.int .i64 n] (sI g l fe) (fun o K=>o = .ret (.int .i64 (match l.findIdx? (· == n) with
  | some i=>(i:Int)
  | none => -1))∧K=sI g l fe):=by
 have an:=bQ;refine bu.bp ak call92 Tryz.func92 C C fun s I=>?_
 unfold sI at I ⊢;refine dF ?_;refine aa.sm ak C C C C C C C ?_;refine fA ?_;refine af.cT [0,1,7] C I (σ:=Nat) (fun j=>[(8,.int .i64 (j:Int))]) (fun _=>sI g l fe) (fun j=>j≤l.length∧∀ i,i<j→l[i]? ≠ some n) (fun j=>l.length-j) 0 ⟨Nat.zero_le _,fun i aY=>absurd aY (Nat.not_lt_zero _)⟩ (c3 C) (au.all _) ?_;rintro j ⟨aS,aH⟩ I;unfold sI at I ⊢;refine cL ?_;refine af.cond C (fun aG=>?_) (fun bk=>?_);rotate_left
 ·have bk:j=l.length:=by simp at bk;omega
  have ab:l.findIdx? (· == n)=none:=by
   rw [List.findIdx?_eq_none_iff];intro z bE;obtain ⟨i,aY⟩:=List.getElem?_of_mem bE;have U:=sq aY;have ae:=aH i ai;simp only [beq_eq_false_iff_ne];intro e;subst e;exact ae aY
  rw [ab];refine fJ ?_;exact Fin.bH I C aR (au.all _) ⟨rfl,rfl⟩
 have aG:j<l.length:=by simpa using aG
 obtain ⟨y,ay⟩:∃ y,l[j]? = some y:=⟨_,List.getElem?_eq_getElem aG⟩;have ey:(l.map bg++fe)[j]? = some (.int .i64 y):=by
  rw [List.getElem?_append_left (by simpa using aG)];simp [ay,bg]
 refine bP ?_;refine aa.e7 ak j C C C C C C C C C C aG ?_;refine aa.kE ak I C C C C C C a1 C (by show (l.map bg++fe)[j*1]? = _;rw [Nat.mul_one];exact ey) ?_;refine hv ?_;refine af.cond C (fun aC=>?_) (fun aC=>?_)
 ·have aC:n=y:=by simpa using aC
  subst aC;have ab:l.findIdx? (· == n)=some j:=by
   rw [List.findIdx?_eq_some_iff_getElem];refine ⟨aG,by simpa using (List.getElem?_eq_some_iff.1 ay).2,fun i aY=>?_⟩;have:=aH i aY;rw [List.getElem?_eq_getElem ai] at this;simpa using this
  rw [ab];refine mh ?_;exact Fin.bH I C aR (au.all _) ⟨rfl,rfl⟩
 ·have aC:n≠y:=by simpa using aC
  refine gi ?_;refine bX.mk (j+1) I ⟨aG,fun i aY=>?_⟩ c7 (au.all _) uH;rcases Nat.lt_succ_iff_lt_or_eq.1 aY with aY|rfl
  ·exact aH i aY
  ·rw [ay];intro e;cases e;exact aC C
theorem Jq (g cap:Nat) (l:List Int) (fe:List ad) (n:Int) (aI:l.length<bt):bu Tryz.prog 43 [dG g l.length cap,.int .i64 n] (sI g l fe) (fun o K=>o = .ret (.bool (l.contains n))∧K=sI g l fe):=by
 rw [← HL];have h:=Ro g cap l fe n aI;refine bu.bp ak call43 Tryz.func43 C C fun s I=>?_
 refine dF ?_;refine aa.b0 rfl rfl rfl rfl rfl h I (au.all _) ?_ (fun _ _ ⟨h,_⟩ _=>by cases h);rintro _ _ ⟨⟨⟩,rfl⟩ I;rw [List.append_nil] at I ⊢;refine dO ?_;exact Fin.bH I C aR (au.all _) ⟨rfl,rfl⟩
theorem Rq (bw:qk) (l:List Int) (n:Int) (aw:rH bw l) (aI:l.length<bt):bu Tryz.prog 43 [mv bw l,.int .i64 n] (kJ bw l) (fun o K=>o = .ret (.bool (l.contains n))∧K=kJ bw l):=by
 cases bw with
 | none=>
  have:l=[]:=aw;subst this;have h:=vO [] n dd;unfold bI at h;have h:=a7.args (show cA [.aA 0 [] .nil,.int .i64 n] [.aA 1 ([].map bg) .bd,.int .i64 n] from .cons a8.empty (.one aR)) h;exact fun s _=>gg.mono (h s) (fun o ah ⟨U,ae⟩=>⟨[],ae,trivial,U,rfl⟩)
 | some x=>
  obtain ⟨g,cap,fe⟩:=x;exact Jq g cap l fe n aI
def wi (σ:ec) (mb:Nat) (pre:List fk) (e:fk) (post:List fk):a6:=pr mb (lR (pre++e::post))::(pre.flatMap (hM σ)++post.flatMap (hM σ))
theorem A8 (σ:ec) (mb:Nat) (pre:List fk) (e:fk) (post:List fk):(kK σ mb (pre++e::post)).Perm (hM σ e++wi σ mb pre e post):=by
 unfold kK wi;rw [List.flatMap_append,List.flatMap_cons];refine (List.Perm.cons _ ?_).trans List.perm_middle.symm;exact List.perm_append_comm_assoc _ _ _
theorem Rr {σ σ':ec} {mb:Nat} {pre:List fk} {e e':fk} {post:List fk} (gw:e'.sp=e.sp) (an:e'.b=e.b) (aw:∀ x∈pre++post,σ' x.sp=σ x.sp):(hM σ' e'++wi σ mb pre e post).Perm (kK σ' mb (pre++e'::post)):=by
 have U:lR (pre++e'::post)=lR (pre++e::post):=by unfold lR;simp [gw,an]
 have ae:∀ l:List fk,(∀ x∈l,σ' x.sp=σ x.sp)→l.flatMap (hM σ')=l.flatMap (hM σ):=fun l aI=>by
  induction l with
  | nil=>rfl
  | cons x r a'=>
   rw [List.flatMap_cons,List.flatMap_cons,a' (fun y ay=>aI y (List.mem_cons_of_mem _ ay))];unfold hM;rw [aI x List.mem_cons_self]
 refine List.Perm.trans ?_ (A8 σ' mb pre e' post).symm;unfold wi;rw [U,ae pre (fun x ab=>aw x (List.mem_append_left _ ab)),ae post (fun x ab=>aw x (List.mem_append_right _ ab))]
theorem nM.apart {n:Nat} {σ:ec} {pre:List fk} {e:fk} {post:List fk} (h:nM n σ (pre++e::post)):∀ x∈pre++post,x.sp≠e.sp:=by
 have aC:=h.nodup;rw [List.map_append,List.map_cons,List.nodup_append] at aC;obtain ⟨U,ae,al⟩:=aC;intro x ab bZ;rcases List.mem_append.1 ab with ab|ab
 ·exact al x.sp (List.mem_map.2 ⟨x,ab,rfl⟩) e.sp List.mem_cons_self bZ
 ·rw [List.nodup_cons] at ae
  exact ae.1 (List.mem_map.2 ⟨x,ab,bZ⟩)
theorem nM.hi {n m:Nat} {σ:ec} {pre:List fk} {e e':fk} {post:List fk} (h:nM n σ (pre++e::post)) (gw:e'.sp=e.sp) (W9:n≤m) {k:fD} (aD:lf m k) (dy:rH e'.bw k.bx):nM m (σ.hi e.sp k) (pre++e'::post):=by
 have aV:=h.apart;have hm:(pre++e'::post).map fk.sp=(pre++e::post).map fk.sp:=by simp [gw]
 refine ⟨fun x ab=>?_,by rw [hm];exact h.nodup,fun q bs=>?_,fun x ab=>?_,fun q=>?_⟩
 ·rcases List.mem_append.1 ab with ab|ab
  ·exact h.four x (List.mem_append_left _ ab)
  ·rcases List.mem_cons.1 ab with rfl|ab
   ·rw [gw];exact h.four e bn
   ·exact h.four x (by simp [ab])
 ·rw [hm] at bs
  unfold ec.hi;rw [if_neg (fun bZ=>bs (by rw [bZ];simp))];exact h.rest q bs
 ·by_cases yD:x=e'
  ·subst yD
   unfold ec.hi;rw [if_pos gw];exact dy
  ·have ab:x∈pre++post:=by
    rcases List.mem_append.1 ab with ab|ab
    ·exact List.mem_append_left _ ab
    ·rcases List.mem_cons.1 ab with rfl|ab
     ·exact absurd C yD
     ·exact List.mem_append_right _ ab
   unfold ec.hi;rw [if_neg (aV x ab)];exact h.bw x (by rcases List.mem_append.1 ab with ab|ab<;>simp [ab])
 ·unfold ec.hi
  split
  ·exact aD
  ·obtain ⟨eJ,a2,a3,a4,a5⟩:=h.lg q
   exact ⟨eJ,a2,by omega,by omega,a5⟩
end Go.Proofs.YtnafpeohfbglmaaGreat
namespace Go.bj
theorem aP.Em {L R:a6} {k:bU} {o:db} (h:aP L k o R):L.Perm ((k,o)::R):=by
 induction h with
 | here=>exact .refl _
 | there _ a'=>exact (List.Perm.cons _ a').trans (List.Perm.swap _ _ _)
theorem au.Em {L K R:a6} (h:au L K R):L.Perm (K++R):=by
 induction h with
 | nil=>exact .refl _
 | cons h t a'=>exact h.Em.trans (List.Perm.cons _ a')
theorem au.Rs {L A B:a6} (h:au L A []) (p:A.Perm B):au L B []:=au.hC ((by have:=h.Em;rw [List.append_nil] at this;exact this:L.Perm A).trans p)
end Go.bj
namespace Go.Proofs.YtnafpeohfbglmaaGreat
open Go.bj Go.bY
theorem Rt (arg:Int) (path:List Int) (j:Nat) (bw:Int) (aS:path[j]? = some bw) (ae:j<2) :
  a7 Tryz.prog 281 [hL (b1 arg (path.take j)),.int .i64 bw] (hL (b1 arg (path.take (j+1)))):=by
 match path,j,aS,ae with
 | a::r,0,aS,_=>
  have:a=bw:=by simpa using aS
  subst this;exact Jg arg 0 0 a
 | a::b::r,1,aS,_=>
  have:b=bw:=by simpa using aS
  subst this;exact Jh arg a 0 b
theorem Ru {σ:ec} {e e':fk} {k:fD} (h:e'.sp=e.sp):hM (σ.hi e.sp k) e'=nK e'.b k e'.on (mv e'.bw k.bx)++kJ e'.bw k.bx:=by
 unfold hM ec.hi;rw [if_pos h]
theorem Rv (bw:qk) (l:List Int):eN (mv bw l)=true:=by
 cases bw with
 | none=>rfl
 | some x=>rfl
theorem Rw (arg:Int):b1 arg []=[arg,0,0,0]:=rfl
def jA (bS:Nat) (sp:List Int) (σ:ec) (mb:Nat) (pre:List fk) (e:fk) (post:List fk) (kb:Nat) (k:fD) (on:bU) (bw:qk):a6:=
 (.own bS,.box 319 (sp.map (ad.int .i64)))::(.own kb,.box 340 (jz k (.aA 1 (k.e2.map bg) on) (mv bw k.bx)))::(on,.row 3 1 k.e2.length)::(kJ bw k.bx++wi σ mb pre e post)
theorem Jr (bS:Nat) (sp:List Int) (σ:ec) (mb:Nat) (pre:List fk) (e:fk) (post:List fk):(kK σ mb (pre++e::post)++[((bU.own bS,db.box 319 (sp.map (ad.int .i64))):bU×db)]).Perm (jA bS sp σ mb pre e post e.b (σ e.sp) e.on e.bw):=
 (List.perm_append_comm.trans (List.Perm.cons _ (A8 σ mb pre e post)))
theorem A9 {bS:Nat} {sp:List Int} {σ:ec} {mb n:Nat} {pre:List fk} {e:fk} {post:List fk} (cW:nM n σ (pre++e::post)) (k:fD) (on:bU) (bw:qk):(jA bS sp σ mb pre e post e.b k on bw).Perm ((.own bS,.box 319 (sp.map (ad.int .i64)))::kK (σ.hi e.sp k) mb (pre++⟨e.sp,e.b,on,bw⟩::post)):=by
 refine List.Perm.cons _ ?_;have h:=Rr (σ:=σ) (σ':=σ.hi e.sp k) (mb:=mb) (pre:=pre) (e:=e) (e':=⟨e.sp,e.b,on,bw⟩) (post:=post) C C (fun x ab=>by unfold ec.hi;rw [if_neg (cW.apart x ab)]);rw [Ru (e:=e) (e':=⟨e.sp,e.b,on,bw⟩) C] at h;exact h
theorem lf.mono {n m:Nat} (h:n≤m) {k:fD} (aD:lf n k):lf m k:=⟨aD.gk,aD.no,by have:=aD.e2;omega,by have:=aD.bx;omega,aD.num⟩
theorem Rx (s:Int) (l:List Int):(mm s l).length≤l.length+1:=by
 unfold mm;split
 ·omega
 ·rw [List.length_mergeSort];simp
theorem au.Ry {L A B:a6} (h:L.Perm (A++B)):∃ R,au L A R:=by
 induction A generalizing L with
 | nil=>exact ⟨L,.nil⟩
 | cons x A a'=>
  obtain ⟨k,o⟩:=x;obtain ⟨a,b,hB⟩:=List.append_of_mem (h.symm.subset (List.mem_append_left _ List.mem_cons_self));rw [hB] at h;have ae:(a++b).Perm (A++B):=(List.perm_cons _).1 (List.perm_middle.symm.trans h);obtain ⟨R,dV⟩:=a' ae;exact ⟨R,.cons (aP.yC hB) dV⟩
theorem lf.need {n:Nat} {k:fD} (h:lf n k) (neg:Bool):lf n (k.need neg):=⟨h.gk,h.no,h.e2,h.bx,h.num⟩
theorem lf.slot {n:Nat} {k:fD} (h:lf n k) (s:Int):lf (n+1) (k.slot s):=⟨h.gk,h.no,by have:=h.e2;show k.e2.length≤_;omega,by have:=h.bx;have:=Rx s k.bx;show (mm s k.bx).length≤_;omega,h.num⟩
theorem lf.ask {n:Nat} {k:fD} (h:lf n k) {w:bT} (hw:w.bK.length≤60) {x:ez} (ab:rG w x):lf (n+1) (k.ask x):=by
 have hH:=we.of ab.node ab.leaf;have mT:=ab.num;obtain ⟨U,ae,al,bl,bD⟩:=h;unfold fD.ask;split
 ·rename_i bW
  have aE:=hH.cls bW;have aN:2^x.1.cls.toNat<2^64:=Nat.pow_lt_pow_right ai ai;split
  ·exact ⟨U,Nat.or_lt_two_pow ae aN,by simp only;omega,by simp only;omega,bD⟩
  ·exact ⟨Nat.or_lt_two_pow U aN,ae,by simp only;omega,by simp only;omega,bD⟩
 ·split
  ·split
   ·exact ⟨U,ae,by simp only;omega,by simp only;omega,by simp only;omega⟩
   ·exact ⟨U,ae,by simp only;omega,by simp only;omega,by simp only;omega⟩
  ·split
   ·exact ⟨U,ae,by simp only [List.length_append,List.length_singleton];omega,by simp only;omega,bD⟩
   ·exact ⟨U,ae,by simp only;omega,by simp only;omega,by simp only;omega⟩
theorem Js (k:fD) (x:ez):(k.ask x).bx=k.bx:=by
 unfold fD.ask;split
 ·split<;>rfl
 ·split
  ·split<;>rfl
  ·split<;>rfl
theorem Rz (w:bT) (hw:w.bK.length≤60) (mb n:Nat) (σ:ec) (es:List fk) (cW:nM n σ es) (aC:n+3<bt) (x:ez) (ab:rG w x) :
  bu Tryz.prog 269 [hk w mb,hj x] (kK σ mb es) (fun o K=>o = .ret (.cl [])∧∃ c5,K=kK (addLit σ x) mb c5∧nM (n+3) (addLit σ x) c5):=by
 have an:=bQ;have hH:=we.of ab.node ab.leaf;have En:=Jp w mb n σ es cW x.1.arg 0 0 0;obtain ⟨f,neg⟩:=x;simp only at hH En;have jn:=hH.path;refine bu.bp ak call269 Tryz.func269 C C fun s I=>?_
 unfold hk at En;unfold hj oh ax.cells;unfold hk
 repeat (first|(refine Dm I ?_;clear I;intro I)|refine aa.dE ak I rfl rfl rfl rfl rfl rfl rfl (fun cv I=>?_))
 refine aa.b0 rfl rfl rfl rfl rfl En I (au.all _).there ?_ (fun _ _ ⟨_,_,_,_,h,_⟩ _=>by cases h);rintro _ _ ⟨pre,e,post,gw,⟨⟩,rfl,cW⟩ I;refine aa.run ak C (aa.nil ?_);refine cf ?_;refine af.k2 I (jA cv (b1 f.arg []) σ mb pre e post e.b (σ e.sp) e.on e.bw) (au.hC (Jr cv (b1 f.arg []) σ mb pre e post)) (fun aD=>?_);revert aD
 repeat clear I
 intro I;refine af.OJ (σ:=Unit) (fun _=>[(0,hk w mb),(3,.bq (oh (f,neg)) 0),(4,.ptr cv 0),(5,.ptr e.b 0) ]) (fun _=>jA cv (b1 f.arg []) σ mb pre e post e.b ((σ e.sp).need neg) e.on e.bw) (fun _=>True) ?_ ?_
 ·unfold jA jz fD.need
  unfold jA jz at I;cases eT:(σ e.sp).nH<;>rw [eT] at I<;>cases neg
  all_goals
   refine cn I ?_;intro I;exact jN.mk () I trivial (c3 C) A6
 rintro _-I;refine iO ?_;refine af.cT [0,3,4,29,30] C I (σ:=Nat×List fk×fk×List fk) (fun q=>[(31,.int .i64 (q.1:Int)),(5,.ptr q.2.2.1.b 0)]) (fun q=>(.own cv,.box 319 ((b1 f.arg (f.path.take q.1)).map (ad.int .i64)))::kK (lO neg f.arg f.path q.1 σ) mb (q.2.1++q.2.2.1::q.2.2.2))
  (fun q=>q.1≤f.path.length∧q.2.2.1.sp=b1 f.arg (f.path.take q.1)∧nM (n+q.1) (lO neg f.arg f.path q.1 σ) (q.2.1++q.2.2.1::q.2.2.2)) (fun q=>f.path.length-q.1) (0,pre,e,post) ⟨Nat.zero_le _,gw,?_⟩ (c3 C) (au.hC ?_) ?_
 ·have:=cW.hi (e':=e) C (Nat.le_refl _) ((cW.lg e.sp).need neg) (cW.bw e bn)
  rw [gw] at this;exact this
 ·have bB:lO neg f.arg f.path 0 σ=σ.hi e.sp ((σ e.sp).need neg):=by rw [lO,Rw,gw]
  show List.Perm _ (((bU.own cv,db.box 319 ((b1 f.arg []).map (ad.int .i64))):bU×db)::kK (lO neg f.arg f.path 0 σ) mb (pre++e::post));rw [bB];exact A9 (mb:=mb) (bS:=cv) (sp:=b1 f.arg []) cW ((σ e.sp).need neg) e.on e.bw
 rintro ⟨j,pre,e,post⟩ ⟨aS,gw,cW⟩ I;simp only at aS gw cW I ⊢;generalize cX:lO neg f.arg f.path j σ=S at cW I ⊢;have aD:=cW.lg e.sp;refine cL ?_;refine af.cond C (fun aG=>?_) (fun bk=>?_);rotate_left
 ·have bk:j=f.path.length:=by simp at bk;omega
  subst bk;rw [List.take_length] at gw I ⊢;have az:addLit σ (f,neg)=S.hi e.sp ((S e.sp).ask (f,neg)):=by
   unfold addLit;simp only;rw [cX,gw]
  have Jt:=Rb w hw e.b (S e.sp) ⟨aD.gk,aD.no,by have:=aD.e2;omega⟩ aD.num e.on (mv e.bw (S e.sp).bx) (Rv _ _) (f,neg) ab;refine af.k2 I (jA cv (b1 f.arg f.path) S mb pre e post e.b (S e.sp) e.on e.bw) (au.hC (List.Perm.cons _ (A8 S mb pre e post))) (fun aD=>?_);revert aD
  repeat clear I
  intro I;unfold hj oh ax.cells at Jt;unfold jA at I ⊢;refine bP ?_;refine aa.b0 rfl rfl rfl rfl rfl Jt I (.cons (.there .here) (.cons (.there .here) .nil)) ?_ (fun _ _ ⟨h,_⟩ _=>by cases h);rintro _ _ ⟨⟨⟩,uG,rfl⟩ I;refine hv ?_;have oL:=A9 (mb:=mb) (bS:=cv) (sp:=b1 f.arg f.path) cW ((S e.sp).ask (f,neg)) uG e.bw;rw [← az] at oL;unfold jA at oL;rw [Js] at oL;have yE:(nK e.b ((S e.sp).ask (f,neg)) uG (mv e.bw (S e.sp).bx)++((.own cv,.box 319 ((b1 f.arg f.path).map (ad.int .i64)))::(kJ e.bw (S e.sp).bx++wi S mb pre e post))).Perm (kK (addLit σ (f,neg)) mb (pre++⟨e.sp,e.b,uG,e.bw⟩::post)++[(.own cv,.box 319 ((b1 f.arg f.path).map (ad.int .i64)))]):=by
   refine List.Perm.trans ?_ ((oL.trans ?_))
   ·exact List.perm_middle (l₁:=nK e.b ((S e.sp).ask (f,neg)) uG (mv e.bw (S e.sp).bx))
   ·exact List.perm_append_comm (l₁:=[((bU.own cv,db.box 319 ((b1 f.arg f.path).map (ad.int .i64))):bU×db)])
  obtain ⟨c4,RA⟩:=au.Ry yE;refine Fin.bH I C aR RA ⟨rfl,_,rfl,?_⟩;rw [az];refine cW.hi (e':=⟨e.sp,e.b,uG,e.bw⟩) C ai ((aD.ask hw ab).mono ai) ?_;rw [Js];exact cW.bw e bn
 have aG:j<f.path.length:=by simpa using aG
 obtain ⟨bw,ay,ey⟩:=cD (f:=fun i=>ad.int .i64 i) aG;have nn:f.path.getD j 0=bw:=by rw [List.getD_eq_getElem?_getD,ay];rfl
 have uI:=cW.bw e bn;have wj:=Rt f.arg f.path j bw ay ai;have nV:=aD.bx;refine af.k2 I (jA cv (b1 f.arg (f.path.take j)) S mb pre e post e.b (S e.sp) e.on e.bw) (au.hC (List.Perm.cons _ (A8 S mb pre e post))) (fun aD=>?_);revert aD
 repeat clear I
 intro I;unfold jA jz at I ⊢;refine cn I ?_;intro I;refine aa.b0 rfl rfl rfl rfl rfl (Rq e.bw (S e.sp).bx bw uI ai) I (au.ik (au.all _)).there.there.there ?_ (fun _ _ ⟨h,_⟩ _=>by cases h);rintro _ _ ⟨⟨⟩,rfl⟩ I;refine aa.k2 I (jA cv (b1 f.arg (f.path.take j)) S mb pre e post e.b (S e.sp) e.on e.bw) (au.hC ((List.perm_middle (l₁:=kJ e.bw (S e.sp).bx)).trans (.cons _ ((List.perm_middle (l₁:=kJ e.bw (S e.sp).bx)).trans (.cons _ ((List.perm_middle (l₁:=kJ e.bw (S e.sp).bx)).trans (.refl _))))))) (fun aD=>?_);revert aD
 repeat clear I
 intro I;refine aa.run ak C (aa.nil ?_);refine cf ?_;refine af.tW (σ:=qk) (fun _=>[(0,hk w mb),(3,.bq (oh (f,neg)) 0),(4,.ptr cv 0),(5,.ptr e.b 0),(7,.int .i64 bw),(29,.aA 1 (f.path.map fun i => .int .i64 i) .bd),(30,.int .i64 ((f.path.map fun i=>ad.int .i64 i).length:Int)),(31,.int .i64 (j:Int))]) (fun ps=>jA cv (b1 f.arg (f.path.take j)) S mb pre e post e.b ((S e.sp).slot bw) e.on ps) (fun ps=>rH ps (mm bw (S e.sp).bx)) ?_ ?_
 ·cases aE:(S e.sp).bx.contains bw with
  | true=>
   have aY:mm bw (S e.sp).bx=(S e.sp).bx:=by unfold mm;rw [if_pos aE]
   unfold jA fD.slot at *;rw [aY];refine tX ?_;exact jN.mk e.bw I uI (c3 C) (by simp only [aY];exact au.all _)
  | false=>
   have aY:mm bw (S e.sp).bx=((S e.sp).bx++[bw]).mergeSort (fun a b=>decide (a≤b)):=by unfold mm;rw [if_neg (by rw [aE];simp)]
   have ql:(mm bw (S e.sp).bx).length=(S e.sp).bx.length+1:=by rw [aY,List.length_mergeSort];simp
   rcases dy:e.bw with _|⟨g,cap,fe⟩
   ·have bB:(S e.sp).bx=[]:=by rw [dy] at uI;exact uI
    rw [bB] at aY ql;unfold jA jz fD.slot at *;rw [dy] at I;rw [bB] at I ⊢;refine cn I ?_;intro I;refine aa.Ds ak I C C C C C C C eQ C C C C C C C (by show 1*8≤_;omega) (fun aT b' cs' U ae al I=>?_)
    obtain ⟨fe,rfl⟩:∃ fe,cs'=[bw].map bg++fe:=⟨cs'.drop 1,by
     have:=List.take_append_drop 1 cs'
     rw [al] at this
     exact this.symm⟩
    refine cn I ?_;intro I;refine aa.b0 rfl rfl rfl rfl rfl (El aT b' [bw] fe bn) I (.cons a1 .nil) ?_ (fun _ _ ⟨h,_⟩ _=>by cases h);rintro _ _ ⟨⟨⟩,rfl⟩ I;refine hv ?_;exact jN.mk (some (aT,b',fe)) I (by show (mm bw []).length+fe.length=b';rw [ql];simp at U ⊢;omega) (c3 C) (by simp only [mv,kJ,ql];rw [aY];exact A6)
   ·rw [dy] at uI
    have uI:(S e.sp).bx.length+fe.length=cap:=uI;unfold jA jz fD.slot at *;rw [dy] at I;simp only [kJ,List.cons_append,List.nil_append] at I ⊢;refine cn I ?_;intro I;refine aa.Dt ak I C C C C C C C eQ C C C C a1 dq ai Jn C C C (by show _*8≤_;omega) ai (fun aT b' cs' U ae al I=>?_)
    obtain ⟨pt,rfl⟩:∃ pt,cs'=((S e.sp).bx++[bw]).map bg++pt:=⟨cs'.drop ((S e.sp).bx.length+1),by
     have:=List.take_append_drop ((S e.sp).bx.length+1) cs'
     rw [List.take_left' bn] at al
     rw [al] at this
     rw [List.map_append]
     exact this.symm⟩
    refine cn I ?_;intro I;have Ju:=El aT b' ((S e.sp).bx++[bw]) pt dq;rw [List.length_append,List.length_singleton] at Ju;refine aa.b0 rfl rfl rfl rfl rfl Ju I (.cons a1 .nil) ?_ (fun _ _ ⟨h,_⟩ _=>by cases h);rintro _ _ ⟨⟨⟩,rfl⟩ I;refine hv ?_;exact jN.mk (some (aT,b',pt)) I (by show (mm bw _).length+pt.length=b';rw [ql];simp at U ⊢;omega) (c3 C) (by simp only [mv,kJ,ql];rw [aY];exact A6)
 rintro ps uJ I;have h9:=cW.hi (e':=⟨e.sp,e.b,e.on,ps⟩) C (Nat.le_succ (n+j)) (aD.slot bw) uJ;have Eo:=Jp w mb _ _ _ h9 f.arg ((f.path.take (j+1)).length:Int) ((f.path.take (j+1)).getD 0 0) ((f.path.take (j+1)).getD 1 0);generalize Jv:S.hi e.sp ((S e.sp).slot bw)=qm at Eo h9;unfold hk at Eo;unfold jA jz at I ⊢;unfold hk;unfold hL at wj;refine cn I ?_;intro I;refine aa.k2 I (((bU.own cv,db.box 319 ((b1 f.arg (f.path.take (j+1))).map (ad.int .i64))):bU×db)::kK qm mb (pre++⟨e.sp,e.b,e.on,ps⟩::post)) (au.hC (by rw [← Jv];exact A9 (mb:=mb) (bS:=cv) (sp:=b1 f.arg (f.path.take (j+1))) cW ((S e.sp).slot bw) e.on ps)) (fun aD=>?_);revert aD
 repeat clear I
 intro I;refine aa.b0 rfl rfl rfl rfl rfl Eo I (au.all _).there ?_ (fun _ _ ⟨_,_,_,_,h,_⟩ _=>by cases h);rintro _ _ ⟨wk,bZ,wm,Jw,⟨⟩,rfl,sJ⟩ I;refine aa.run ak C (aa.nil ?_);refine cf ?_;refine af.k2 I (jA cv (b1 f.arg (f.path.take (j+1))) qm mb wk bZ wm bZ.b (qm bZ.sp) bZ.on bZ.bw) (au.hC (Jr cv (b1 f.arg (f.path.take (j+1))) qm mb wk bZ wm)) (fun aD=>?_);revert aD
 repeat clear I
 intro I;have tS:lO neg f.arg f.path (j+1) σ=qm.hi bZ.sp ((qm bZ.sp).need neg):=by
  rw [lO]
  try simp only
  rw [cX,nn,← gw,Jv];have:b1 f.arg (f.path.take (j+1))=bZ.sp:=Jw.symm;rw [this]
 have yE:(jA cv (b1 f.arg (f.path.take (j+1))) qm mb wk bZ wm bZ.b ((qm bZ.sp).need neg) bZ.on bZ.bw).Perm (((bU.own cv,db.box 319 ((b1 f.arg (f.path.take (j+1))).map (ad.int .i64))):bU×db)::kK (lO neg f.arg f.path (j+1) σ) mb (wk++bZ::wm)):=by
  rw [tS];exact A9 (mb:=mb) (bS:=cv) (sp:=b1 f.arg (f.path.take (j+1))) sJ ((qm bZ.sp).need neg) bZ.on bZ.bw
 have RB:nM (n+(j+1)) (lO neg f.arg f.path (j+1) σ) (wk++bZ::wm):=by
  have:=sJ.hi (e':=bZ) C (Nat.le_refl _) ((sJ.lg bZ.sp).need neg) (sJ.bw bZ bn);rw [← tS] at this;exact this
 unfold jA jz fD.need at yE;unfold jA jz at I ⊢;cases eT:(qm bZ.sp).nH<;>rw [eT] at I yE<;>cases neg
 all_goals
  refine gu I ?_;intro I;exact bX.mk (j+1,wk,bZ,wm) I ⟨aG,Jw,RB⟩ c7 (au.Rs A6 yE) (by show f.path.length-(j+1)<f.path.length-j;omega)
end Go.Proofs.YtnafpeohfbglmaaGreat
namespace Go.bj
section
variable {P:Program} {Γ:cg} {N:Nat} {env:Env} {s:aj} {ops:Array Oper} {rest:List Oper} {Q:b2→Env→aj→Prop} {L R:a6}
theorem c9.Ep {B:ff} {ro:Option Nat} {a:Act} {w:World} {p:bN} (h:c9 N B ro env s a w p) {kb b n cap i:Nat} {T uK:TypeId} {cells cs:List ad} (cB:kb≠b) (iU:s kb=some (.box T cells)) (aE:cells[i]? = some (dG b n cap)) (aw:s b=some (.box uK cs)) (cE:cs.length=cap) (aC:n≤cap) (hm:n≤9223372036854775807)
  (gz:(cs.take n).all eN=true):∃ bb,c9 N B ro env ((s.del b).set kb (.box T (cells.set i (.aA 1 (cs.take n) .bd)))) a w bb∧cV w p w bb∧Kept s ((s.del b).set kb (.box T (cells.set i (.aA 1 (cs.take n) .bd)))) w p w bb:=by
 obtain ⟨vs,U,ae,al⟩:=h.wf.obj _ _ aw;have aG:b<w.heap.size:=(Array.getElem?_eq_some_iff.1 U).1;have hle:cV w p w (p.dA b True):=⟨rfl,rfl,rfl,Nat.le_refl _,fun _ _ h => .inl h,fun _ _ _=>rfl,fun _ _ h=>h⟩;have dy:∀ v,Rel w p v (dG b n cap)→Rel w (p.dA b True) v (.aA 1 (cs.take n) .bd):=by
  intro v az;cases az;have hc:=ae.take n;have ue:=oT hc gz;have jm:=rl ue;refine .aA b 0 n cap 1 (vs.toList.take n) (cs.take n) .bd bn vh ?_ (hc.mono hle) (fun v av=>by rw [xV (ue v av)];rfl) hm aC (fun h=>by cases h) (fun b h=>by cases h);rw [jm];intro i v aY;refine ⟨.inr ⟨rfl,trivial⟩,?_⟩;rw [Nat.zero_add,iz U];rw [List.getElem?_take] at aY;split at aY
  ·simpa using aY
  ·cases aY
 have aD:Kept s ((s.del b).set kb (.box T (cells.set i (.aA 1 (cs.take n) .bd)))) w p w (p.dA b True):=⟨fun _ _ _=>rfl,fun aT an gZ=>by
  have bl:aT≠kb:=fun e=>by subst e;rw [iU] at gZ;cases gZ
  rw [aj.e5 _ _ bl]
  by_cases e:aT=b
  ·subst e;exact aj.l5 _ _
  ·rw [aj.lp _ e];exact gZ,fun aT o an gZ aN=>by
   rcases aN with aN|⟨rfl,_⟩
   ·exact aN
   ·rw [aw] at gZ;cases gZ⟩
 have b6:c0 w (p.dA b True) ((s.del b).set kb (.box T (cells.set i (.aA 1 (cs.take n) .bd)))):=by
  refine ⟨fun aT o an=>?_,fun aT o aN=>by rcases aN with aN|⟨rfl,_⟩;exact h.wf.lt _ _ aN;exact aG⟩;have eZ:aT≠b→∀ o,p.dA b True aT o↔p aT o:=fun e o=>⟨fun aN=>by rcases aN with aN|⟨e',_⟩;exact aN;exact absurd e' e,.inl⟩
  by_cases h0:aT=kb
  ·subst h0
   rw [aj.fu] at an;cases an;obtain ⟨us,g1,g2,g3⟩:=h.wf.obj _ _ iU;obtain ⟨v,q3,nY⟩:=g2.get aE;have bD:=(g2.mono hle).set i (dy v nY);have fG:us.toList.set i v=us.toList:=by
    apply List.ext_getElem?;intro k;rw [List.getElem?_set];split
    ·rename_i e;subst e
     split
     ·rw [q3]
     ·rename_i aG;rw [List.getElem?_eq_none ai]
    ·rfl
   rw [fG] at bD;exact ⟨us,g1,bD,fun o aN=>g3 o ((eZ cB o).1 aN)⟩
  rw [aj.e5 _ _ h0] at an;by_cases e:aT=b
  ·subst e;rw [aj.l5] at an;cases an
  ·rw [aj.lp _ e] at an
   have ag:=h.wf.obj aT o an;have eZ:=eZ e;cases o with
   | box t c=>obtain ⟨us,g1,g2,g3⟩:=ag;exact ⟨us,g1,g2.mono hle,fun o aN=>g3 o ((eZ o).1 aN)⟩
   | row t sz n=>obtain ⟨cur,g1,g2,g3,g4⟩:=ag;exact ⟨cur,g1,g2,g3,fun o=>(eZ o).trans (g4 o)⟩
   | map es=>obtain ⟨cw,c,g1,g2,g3⟩:=ag;exact ⟨cw,c,g1,⟨g2.1.mono hle,g2.2.mono hle⟩,g3⟩
   | j2 es it l c=>exact ag.oO hle C C
   | tick m=>exact ag
   | loop r env=>exact ⟨ag.1,fun t v h=>(ag.2 t v h).mono hle⟩
 exact ⟨_,h.step hle aD b6,hle,aD⟩
theorem Jx {kb b:Nat} {o o' o'':db} {c4:a6} (I:Ok s L) (U:aP L (.own kb) o R) (ae:aP R (.own b) o' c4):kb≠b∧aQ s L kb=some o∧aQ s L b=some o'∧((aQ s L).del b).set kb o''=aQ s ((.own kb,o'')::c4)∧Ok s ((.own kb,o'')::c4):=by
 obtain ⟨b8,cz⟩:=U.perm I;have Jy:gone (aQ s R) (.own kb)∧Ok s R:=cz;obtain ⟨bZ,dj⟩:=ae.perm Jy.2;have Jz:gone (aQ s c4) (.own b)∧Ok s c4:=dj;have eF:aQ s L=((aQ s c4).set b o').set kb o:=by rw [b8];show kv (aQ s R) (.own kb) o=_;rw [bZ];rfl
 have iU:aQ s R kb=none:=Jy.1;rw [bZ] at iU;have A':((aQ s c4).set b o') kb=none:=iU;have cB:kb≠b:=fun e=>by subst e;rw [aj.fu] at A';cases A'
 rw [aj.e5 _ _ cB] at A';have an:aQ s c4 b=none:=Jz.1;refine ⟨cB,U.get I,?_,?_,A',Jz.2⟩
 ·rw [eF,aj.e5 _ _ (fun e=>cB e.symm),aj.fu]
 ·funext x
  show ((aQ s L).del b).set kb o'' x=((aQ s c4).set kb o'') x;by_cases ab:x=kb
  ·subst ab;rw [aj.fu,aj.fu]
  ·rw [aj.e5 _ _ ab,aj.e5 _ _ ab]
   by_cases Er:x=b
   ·subst Er;rw [aj.l5,an]
   ·rw [aj.lp _ Er,eF,aj.e5 _ _ ab,aj.e5 _ _ Er]
theorem af.Ep {c:Code} (I:Ok s L) {kb b n cap:Nat} (i:Nat) {T uK:TypeId} {cells cs:List ad} {c4:a6} (U:aP L (.own kb) (.box T cells) R) (ae:aP R (.own b) (.box uK cs) c4) (aE:cells[i]? = some (dG b n cap)) (cE:cs.length=cap) (aC:n≤cap) (hm:n≤9223372036854775807) (gz:(cs.take n).all eN=true)
  (h:Ok s ((.own kb,.box T (cells.set i (.aA 1 (cs.take n) .bd)))::c4)→af P N c Q env (aQ s ((.own kb,.box T (cells.set i (.aA 1 (cs.take n) .bd)))::c4))):af P N c Q env (aQ s L):=by
 obtain ⟨g1,g2,g3,g4,g5⟩:=Jx (o'' := .box T (cells.set i (.aA 1 (cs.take n) .bd))) I U ae;intro rp B a w p et aF;obtain ⟨bb,al,bl,bD⟩:=aF.Ep g1 g2 aE g3 cE aC hm gz;rw [g4] at al bD;exact kR (h g5 rp B a w bb et al) fun _ _ _ q=>q.after bl bD
end
end Go.bj
namespace Go.Proofs.YtnafpeohfbglmaaGreat
open Go.bj Go.bY
abbrev jV:=List Int×Nat
def hq (σ:ec) (e:jV):bU×db:=(.own e.2,.box 340 (jz (σ e.1) (.aA 1 ((σ e.1).e2.map bg) .bd) (.aA 1 ((σ e.1).bx.map bg) .bd)))
def mU (es:List jV):SMap:=es.map fun e=>(e.1,.ptr e.2 0)
def lh (σ:ec) (mb:Nat) (es:List jV):a6:=pr mb (mU es)::es.map (hq σ)
theorem af.JA {P:Program} {N:Nat} {Q:b2→Env→aj→Prop} {env:Env} {s:aj} {c:Code} (σ:ec):∀ (es:List fk) (A:a6),(∀ e∈es,rH e.bw (σ e.sp).bx∧(σ e.sp).bx.length<bt)→Ok s (A++es.flatMap (hM σ)) →
    (Ok s (A++es.map fun e=>hq σ (e.sp,e.b))→af P N c Q env (aQ s (A++es.map fun e=>hq σ (e.sp,e.b))))→af P N c Q env (aQ s (A++es.flatMap (hM σ)))
  | [],A,_,I,h=>h I
  | e::es,A,aw,I,h=>by
    have an:=bQ;obtain ⟨lD,lr⟩:=aw e List.mem_cons_self;have RC:Ok s ((A++[hq σ (e.sp,e.b)])++es.flatMap (hM σ))→af P N c Q env (aQ s ((A++[hq σ (e.sp,e.b)])++es.flatMap (hM σ))):=fun I=>by
      refine af.JA σ es (A++[hq σ (e.sp,e.b)]) (fun x ab=>aw x (List.mem_cons_of_mem _ ab)) I ?_;intro I;rw [List.append_assoc] at I ⊢;exact h I
    have kD:Ok s (hq σ (e.sp,e.b)::(A++es.flatMap (hM σ)))→af P N c Q env (aQ s (hq σ (e.sp,e.b)::(A++es.flatMap (hM σ)))):=fun I=>by
      refine af.k2 I ((A++[hq σ (e.sp,e.b)])++es.flatMap (hM σ)) (au.hC ?_) RC;rw [List.append_assoc];exact (List.perm_middle (l₁:=A)).symm
    rw [List.flatMap_cons] at I ⊢;refine af.k2 I (hM σ e++(A++es.flatMap (hM σ))) (au.hC (List.perm_append_comm_assoc _ _ _)) (fun aD=>?_);clear I;have jT:cA (jz (σ e.sp) (.aA 1 ((σ e.sp).e2.map bg) e.on) (.aA 1 ((σ e.sp).bx.map bg) .bd)) (jz (σ e.sp) (.aA 1 ((σ e.sp).e2.map bg) .bd) (.aA 1 ((σ e.sp).bx.map bg) .bd)) := .cons aR (.cons aR (.cons a8.bd (cA.refl _)));unfold hM nK at aD ⊢;rcases dy:e.bw with _|⟨g,cap,fe⟩
    · rw [dy] at aD lD
      have bB:(σ e.sp).bx=[]:=lD;have RD:cA (jz (σ e.sp) (.aA 1 ((σ e.sp).e2.map bg) e.on) (mv none (σ e.sp).bx)) (jz (σ e.sp) (.aA 1 ((σ e.sp).e2.map bg) .bd) (.aA 1 ((σ e.sp).bx.map bg) .bd)):=by
        rw [bB];exact .cons aR (.cons aR (.cons a8.bd (.cons aR (.cons aR (.cons aR (.cons aR (.one a8.empty)))))))
      refine af.vJ aD e.b _ .here RD (fun aD=>?_);refine af.k2 aD (hq σ (e.sp,e.b)::(A++es.flatMap (hM σ))) (.cons .here (au.there (e:=(e.on,.row 3 1 (σ e.sp).e2.length)) (au.all (A++es.flatMap (hM σ))))) kD
    · rw [dy] at aD lD
      have jt:(σ e.sp).bx.length+fe.length=cap:=lD;refine af.Ep aD 7 .here (.there .here) C dq ai ai Jn (fun aD=>?_);rw [List.take_left' bn] at aD ⊢;refine af.vJ aD e.b _ .here jT (fun aD=>?_);refine af.k2 aD (hq σ (e.sp,e.b)::(A++es.flatMap (hM σ))) (.cons .here (au.there (e:=(e.on,.row 3 1 (σ e.sp).e2.length)) (au.all (A++es.flatMap (hM σ))))) kD
end Go.Proofs.YtnafpeohfbglmaaGreat
namespace Go.Proofs.YtnafpeohfbglmaaGreat
open Go.bj Go.bY
structure uL (n:Nat) (E:List jV) (σ:ec) (es:List jV):Prop where
 four:∀ e∈es,e.1.length=4
 rest:∀ q,q∉es.map Prod.fst→σ q=pj
 lg:∀ q,lf n (σ q)
 keep:∀ x∈E,x∈es
def RE (n:Nat) (σ:ec) (mb:Nat) (v:ad) (o:eb) (K:a6):Prop:=o = .ret v∧∃ es,K=lh σ mb es∧uL n [] σ es
theorem RF (w:bT) (hw:w.bK.length≤60) (l:List ez) (aI:3*l.length+3<bt) (ab:∀ x∈l,rG w x) :
  bu Tryz.prog 248 [fx w,oo l] [] (fun o K=>∃ mb,RE (3*l.length) (iT l) mb (hk w mb) o K):=by
 have an:=bQ;refine bu.bp ak call248 Tryz.func248 C C fun s I=>?_
 unfold fx eC;refine dF ?_;refine aa.pZ I C C C C (fun mb I=>?_);refine bP ?_;refine af.cT [5,12,13] C I (σ:=Nat×List fk) (fun q=>[(14,.int .i64 (q.1:Int))]) (fun q=>kK (iT (l.take q.1)) mb q.2) (fun q=>q.1≤l.length∧nM (3*q.1) (iT (l.take q.1)) q.2) (fun q=>l.length-q.1) (0,[]) ⟨Nat.zero_le _,⟨by simp,by simp,fun q _=>rfl,by simp,fun q=>Rm _⟩⟩ (c3 C) (au.all _) ?_;rintro ⟨j,es⟩ ⟨aS,cW⟩ I;simp only at aS cW I ⊢;refine cL ?_;refine af.cond C (fun aG=>?_) (fun bk=>?_);rotate_left
 ·have bk:j=l.length:=by simp at bk;omega
  subst bk;rw [List.take_length] at cW I ⊢;refine af.JA (iT l) es [pr mb (lR es)] (fun e he=>⟨cW.bw e he,by have:=(cW.lg e.sp).bx;omega⟩) I (fun I=>?_);refine fJ ?_;refine Fin.bH I C aR (au.all _) ⟨mb,rfl,es.map (fun e=>(e.sp,e.b)),?_,?_,?_,cW.lg,by simp⟩
  ·unfold lh mU lR
   simp [List.map_map,Function.comp_def]
  ·intro e he
   obtain ⟨x,ab,rfl⟩:=List.mem_map.1 he;exact cW.four x ab
  ·intro q bs
   refine cW.rest q (fun hm=>bs ?_);obtain ⟨x,ab,rfl⟩:=List.mem_map.1 hm;exact List.mem_map.2 ⟨(x.sp,x.b),List.mem_map.2 ⟨x,ab,rfl⟩,rfl⟩
 have aG:j<l.length:=by simpa using aG
 obtain ⟨x,ay,ey⟩:=cD (f:=hj) aG;have aw:iT (l.take (j+1))=addLit (iT (l.take j)) x:=by
  unfold iT;rw [mi ay,List.foldl_append];rfl
 have aV:=Rz w hw mb _ _ es cW ai x (ab x (List.mem_of_getElem? ay));unfold hk fx eC at aV;unfold hj oh ax.cells at ey aV
 repeat (first|(refine AA I ?_;clear I;intro I)|refine aa.dE ak I rfl rfl rfl rfl rfl rfl rfl (fun cv I=>?_))
 refine aa.b0 rfl rfl rfl rfl rfl aV I (au.all _).there ?_ (fun _ _ ⟨h,_⟩ _=>by cases h);rintro _ _ ⟨⟨⟩,c5,rfl,h9⟩ I;refine h8 ?_;refine bX.mk (j+1,c5) I ⟨aG,?_⟩ c7 (by show au _ (kK (iT (l.take (j+1))) mb c5) _;rw [aw];exact au.ik (au.all _)) uH;rw [aw];exact h9
theorem RG {es:List jV} {sp:List Int}:(mU es).find? (fun e=>e.1==sp)=none↔sp∉es.map Prod.fst:=by
 unfold mU;rw [List.find?_eq_none];constructor
 ·intro h hm
  obtain ⟨e,he,rfl⟩:=List.mem_map.1 hm;have:=h _ (List.mem_map.2 ⟨e,he,rfl⟩);simp at this
 ·intro h x ab
  obtain ⟨e,he,rfl⟩:=List.mem_map.1 ab;simp only [beq_iff_eq];intro bZ;exact h (List.mem_map.2 ⟨e,he,bZ⟩)
theorem RH {es:List jV} {sp:List Int} {x:List Int×ad} (h:(mU es).find? (fun e=>e.1==sp)=some x):∃ e∈es,e.1=sp∧x=(e.1,.ptr e.2 0):=by
 unfold mU at h;have U:=List.mem_of_find?_eq_some h;have ae:=List.find?_some h;obtain ⟨e,he,rfl⟩:=List.mem_map.1 U;exact ⟨e,he,by simpa using ae,rfl⟩
end Go.Proofs.YtnafpeohfbglmaaGreat
namespace Go.Proofs.YtnafpeohfbglmaaGreat
open Go.bj Go.bY
theorem uM (w:bT) (mb n:Nat) (σ:ec) (es:List jV) {E:List jV} (cW:uL n E σ es) (gF dD c1 dn:Int) :
  bu Tryz.prog 280 [hk w mb,hL [gF,dD,c1,dn]] (lh σ mb es) (fun o K=>∃ b R,o = .ret (.ptr b 0)∧(∃ c5,(hq σ ([gF,dD,c1,dn],b)::R).Perm (lh σ mb c5)∧uL n E σ c5∧([gF,dD,c1,dn],b)∈c5)∧K=hq σ ([gF,dD,c1,dn],b)::R):=by
 have h:=Jf (.aA 1 [] .bd) (.aA 1 [] .bd) a8.empty a8.empty w mb (mU es) (fun e he=>by
  unfold mU at he
  obtain ⟨x,ab,rfl⟩:=List.mem_map.1 he
  exact cW.four x ab) gF dD c1 dn
 refine bu.frame h (R:=es.map (hq σ)) (.cons .here .nil) ?_;rintro o aL (⟨x,ab,rfl,rfl⟩|⟨ba,b,rfl,rfl⟩)
 ·obtain ⟨⟨sp,b⟩,he,U,rfl⟩:=RH ab
  simp only at U;subst U;obtain ⟨pre,post,rfl⟩:=List.append_of_mem he;have aN:((pr mb (mU (pre++([gF,dD,c1,dn],b)::post)))::(pre++([gF,dD,c1,dn],b)::post).map (hq σ)).Perm (hq σ ([gF,dD,c1,dn],b)::(pr mb (mU (pre++([gF,dD,c1,dn],b)::post))::(pre.map (hq σ)++post.map (hq σ)))):=by
   rw [List.map_append,List.map_cons];exact ((List.perm_middle).cons _).trans (List.Perm.swap _ _ _)
  exact ⟨[],_,by simp,aN,b,_,rfl,⟨_,aN.symm,cW,by simp⟩,rfl⟩
 ·have jZ:=RG.1 ba
  have yn:=cW.rest _ jZ;have b8:hq σ ([gF,dD,c1,dn],b)=(.own b,.box 340 (jz pj (.aA 1 [] .bd) (.aA 1 [] .bd))):=by
   unfold hq;simp only [yn];rfl
  refine ⟨[],hq σ ([gF,dD,c1,dn],b)::(pr mb (mU (es++[([gF,dD,c1,dn],b)]))::es.map (hq σ)),by simp,?_,b,_,rfl,⟨es++[([gF,dD,c1,dn],b)],?_,?_,by simp⟩,rfl⟩
  ·rw [b8]
   have bZ:mU (es++[([gF,dD,c1,dn],b)])=mU es++[([gF,dD,c1,dn],.ptr b 0)]:=by unfold mU;rw [List.map_append];rfl
   rw [bZ];exact List.Perm.swap _ _ _
  ·unfold lh
   rw [List.map_append];refine (List.Perm.swap _ _ _).trans (List.Perm.cons _ ?_);exact List.perm_append_comm (l₁:=[hq σ ([gF,dD,c1,dn],b)])
  ·refine ⟨fun e he=>?_,fun q bs=>cW.rest q (fun hm=>bs (by rw [List.map_append];exact List.mem_append_left _ hm)),cW.lg,fun x ab=>List.mem_append_left _ (cW.keep x ab)⟩
   rcases List.mem_append.1 he with he|he
   ·exact cW.four e he
   ·rw [List.mem_singleton] at he;subst he;rfl
end Go.Proofs.YtnafpeohfbglmaaGreat
namespace Go.Proofs.YtnafpeohfbglmaaGreat
open Go.bj Go.bY
theorem RI (fv:ad) (q:Int→Bool) (X4:a6→Prop) (xs:List Int) (aI:xs.length<bt) (h:∀ x∈xs,∀ K,X4 K→c2 Tryz.prog fv [bg x] K (fun o aL=>o = .ret (.bool (q x))∧X4 aL)) (K:a6) (aH:X4 K) :
  bu Tryz.prog 90 [.aA 1 (xs.map bg) .bd,fv] K (fun o aL=>o = .ret (.int .i64 (match xs.findIdx? q with|some i=>(i:Int)|none => -1))∧X4 aL):=by
 have an:=bQ;refine bu.bp ak call90 Tryz.func90 C C fun s I=>?_
 refine iO ?_;refine af.cT [0,1,7] C I (σ:=Nat×a6) (fun j=>[(8,.int .i64 (j.1:Int))]) (fun j=>j.2) (fun j=>j.1≤xs.length∧X4 j.2∧∀ i y,i<j.1→xs[i]? = some y→q y=false) (fun j=>xs.length-j.1) (0,K) ⟨Nat.zero_le _,aH,fun i y aY=>absurd aY (Nat.not_lt_zero _)⟩ (c3 C) (au.all _) ?_;rintro ⟨j,yF⟩ ⟨aS,Es,dX⟩ I;simp only at aS Es dX I ⊢;refine cL ?_;refine af.cond C (fun aG=>?_) (fun bk=>?_)
 ·have aG:j<xs.length:=by simpa using aG
  obtain ⟨x,ab,ch⟩:=cD (f:=bg) aG;have av:=h x (List.mem_of_getElem? ab) yF Es;unfold bg at ch av;refine bP ?_;refine aa.fO rfl rfl rfl rfl rfl rfl av I (au.all _) ?_ (fun _ _ ⟨h,_⟩ _=>by cases h);rintro _ hN ⟨⟨⟩,jB⟩ I;rw [List.append_nil] at I ⊢;cases bs:q x with
  | true=>
   rw [HZ q xs j x ab bs dX];refine cC ?_;exact Fin.bH I C aR (au.all _) ⟨rfl,jB⟩
  | false=>
   refine bP ?_
   exact bX.mk (j+1,hN) I ⟨aG,jB,fun i y aY ay=>by
    rcases Nat.lt_succ_iff_lt_or_eq.1 aY with aY|rfl
    ·exact dX i y aY ay
    ·rw [ab] at ay;cases ay;exact bs⟩ c7 (au.all _) p2
 ·have bk:j=xs.length:=by simp at bk;omega
  subst bk;rw [H0 q xs (fun i y ay=>dX i y (sq ay) ay)];refine fJ ?_;exact Fin.bH I C aR (au.all _) ⟨rfl,Es⟩
theorem RJ {α:Type} (q:α→Bool) (l:List α):decide ((match l.findIdx? q with|some i=>(i:Int)|none => -1)≥0)=l.any q:=by
 cases h:l.findIdx? q with
 | none=>
  rw [List.findIdx?_eq_none_iff] at h;have:l.any q=false:=by rw [List.any_eq_false];intro x ab;rw [h x ab];simp
  rw [this];rfl
 | some i=>
  rw [List.findIdx?_eq_some_iff_getElem] at h;obtain ⟨aY,U,_⟩:=h;have:l.any q=true:=List.any_eq_true.2 ⟨_,List.getElem_mem aY,U⟩;rw [this];simp
theorem RK (fv:ad) (q:Int→Bool) (X4:a6→Prop) (xs:List Int) (aI:xs.length<bt) (h:∀ x∈xs,∀ K,X4 K→c2 Tryz.prog fv [bg x] K (fun o aL=>o = .ret (.bool (q x))∧X4 aL)) (K:a6) (aH:X4 K) :
  bu Tryz.prog 40 [.aA 1 (xs.map bg) .bd,fv] K (fun o aL=>o = .ret (.bool (xs.any q))∧X4 aL):=by
 rw [← RJ];have aE:=RI fv q X4 xs aI h K aH;refine bu.bp ak call40 Tryz.func40 C C fun s I=>?_
 refine dF ?_;refine aa.b0 rfl rfl rfl rfl rfl aE I (au.all _) ?_ (fun _ _ ⟨h,_⟩ _=>by cases h);rintro _ hN ⟨⟨⟩,jB⟩ I;rw [List.append_nil] at I ⊢;refine dO ?_;exact Fin.bH I C aR (au.all _) ⟨rfl,jB⟩
theorem RL (f:FuncId) (hA gr:List ad) (q:Int→Bool) (X4:a6→Prop) (xs:List Int) (aI:xs.length<bt) (h:∀ x∈xs,∀ K,X4 K→c2 Tryz.prog (.func f hA gr) [bg x] K (fun o aL=>o = .ret (.bool (q x))∧X4 aL)) (K:a6) (aH:X4 K) :
  bu Tryz.prog 198 [.aA 1 (xs.map bg) .bd,.func f hA gr] K (fun o aL=>o = .ret (.bool (xs.all q))∧X4 aL):=by
 have U:∀ x∈xs,∀ K,X4 K→c2 Tryz.prog (.func 233 [] [.bq [.func f hA gr] 0]) [bg x] K (fun o aL=>o = .ret (.bool (!q x))∧X4 aL):=fun x ab K br=>by
  refine c2.eP (first:=[]) (cap:=[.bq [.func f hA gr] 0]) ?_;refine bu.bp ak call233 Tryz.func233 C C fun s I=>?_
  have av:=h x ab K br;unfold bg at av ⊢;refine dF ?_;refine aa.fO rfl rfl rfl rfl rfl rfl av I (au.all _) ?_ (fun _ _ ⟨h,_⟩ _=>by cases h);rintro _ hN ⟨⟨⟩,jB⟩ I;rw [List.append_nil] at I ⊢;refine dO ?_;exact Fin.bH I C aR (au.all _) ⟨rfl,jB⟩
 rw [← yj];have aE:=RK _ (fun x => !q x) X4 xs aI U K aH;refine bu.bp ak call198 Tryz.func198 C C fun s I=>?_
 refine dF ?_;refine aa.b0 rfl rfl rfl rfl rfl aE I (au.all _) ?_ (fun _ _ ⟨h,_⟩ _=>by cases h);rintro _ hN ⟨⟨⟩,jB⟩ I;rw [List.append_nil] at I ⊢;refine dO ?_;exact Fin.bH I C aR (au.all _) ⟨rfl,jB⟩
theorem JB (arg:Int) (path:List Int) (bw:Int) (h:path.length<2):a7 Tryz.prog 281 [hL (b1 arg path),.int .i64 bw] (hL (b1 arg (path++[bw]))):=by
 match path,h with
 | [],_=>exact Jg arg 0 0 bw
 | [a],_=>exact Jh arg a 0 bw
structure sK (n:Nat) (σ:ec):Prop where
 deep:∀ arg path,2≤path.length→(σ (b1 arg path)).bx=[]
 lg:∀ q,lf n (σ q)
def kL (n:Nat) (E:List jV) (σ:ec) (mb:Nat) (K:a6):Prop:=∃ es,K=lh σ mb es∧uL n E σ es
def Et (σ:ec) (arg:Int) (path:List Int):Bool:=(σ (b1 arg path)).bx.all fun s => !(σ (b1 arg (path++[s]))).nH
theorem RM (w:bT) (mb n:Nat) (σ:ec) (arg:Int) (path:List Int) (aN:path.length<2) (bw:Int) {E:List jV} (K:a6) (br:kL n E σ mb K) :
  c2 Tryz.prog (.func 315 [] [.bq [hk w mb] 0,.bq ((b1 arg path).map (ad.int .i64)) 0]) [bg bw] K (fun o aL=>o = .ret (.bool (!(σ (b1 arg (path++[bw]))).nH))∧kL n E σ mb aL):=by
 obtain ⟨es,rfl,cW⟩:=br;have U:=JB arg path bw aN;have ae:=uM w mb n σ es cW arg ((path++[bw]).length:Int) ((path++[bw]).getD 0 0) ((path++[bw]).getD 1 0);refine c2.eP (first:=[]) (cap:=[.bq [hk w mb] 0,.bq ((b1 arg path).map (ad.int .i64)) 0]) ?_;refine bu.bp ak call315 Tryz.func315 C C fun s I=>?_
 unfold hk at *;unfold hL ji at U;refine Dk ?_;refine aM.PM rfl rfl rfl rfl rfl rfl ae I (au.all _) ?_ (fun _ _ ⟨_,_,h,_⟩ _=>by cases h);rintro _ _ ⟨b,R,⟨⟩,⟨c5,eZ,h9,gA⟩,rfl⟩ I;rw [List.append_nil] at I ⊢;refine cn I ?_;intro I;exact Fin.bH I C aR (au.hC eZ) ⟨rfl,c5,rfl,h9⟩
end Go.Proofs.YtnafpeohfbglmaaGreat
namespace Go.Proofs.YtnafpeohfbglmaaGreat
open Go.bj Go.bY
theorem RN (w:bT) (mb n:Nat) (aC:n<bt) (σ:ec) (cX:sK n σ) (arg:Int) (path:List Int) (aN:path.length≤2) {E:List jV} (K:a6) (br:kL n E σ mb K) :
    bu Tryz.prog 305 [hk w mb,hL (b1 arg path)] K (fun o aL=>o = .ret (.bool (Et σ arg path))∧kL n E σ mb aL):=by
  obtain ⟨es,rfl,cW⟩:=br;have ae:=uM w mb n σ es cW arg (path.length:Int) (path.getD 0 0) (path.getD 1 0);have j6:=(cX.lg (b1 arg path)).bx
  have al:=RL 315 [] [.bq [hk w mb] 0,.bq ((b1 arg path).map (ad.int .i64)) 0] (fun s => !(σ (b1 arg (path++[s]))).nH) (kL n E σ mb) (σ (b1 arg path)).bx ai (fun x ab K br=>by
    have jn:path.length<2:=by
      rcases Nat.lt_or_ge path.length 2 with h|h
      · exact h
      · rw [cX.deep arg path h] at ab;cases ab
    exact RM w mb n σ arg path jn x K br)
  refine bu.bp ak call305 Tryz.func305 C C fun s I=>?_
  unfold hk at *;unfold hL ji at *;refine dF ?_;refine aa.b0 rfl rfl rfl rfl rfl ae I (au.all _) ?_ (fun _ _ ⟨_,_,h,_⟩ _=>by cases h);rintro _ _ ⟨b,R,⟨⟩,⟨c5,eZ,h9,gA⟩,rfl⟩ I;rw [List.append_nil] at I ⊢;unfold hq at I ⊢;refine cn I ?_;intro I;refine aa.k2 I (lh σ mb c5) (au.hC eZ) (fun I=>?_);refine aa.b0 rfl rfl rfl rfl rfl (al _ ⟨c5,rfl,h9⟩) I (au.all _) ?_ (fun _ _ ⟨h,_⟩ _=>by cases h);rintro _ hN ⟨⟨⟩,mV⟩ I;rw [List.append_nil] at I ⊢;refine dO ?_;exact Fin.bH I C aR (au.all _) ⟨rfl,mV⟩
def wo (σ:ec) (arg:Int) (path:List Int) (c:Nat):Bool:=
 decide (mM (σ (b1 arg path)).gk (1|||2^c)=0)&&(decide ((σ (b1 arg path)).no &&& (1|||2^c)=0)&&Et σ arg path)
theorem yG (m:Nat):(((m:Nat):Int)==0)=decide (m=0):=by
 rw [Bool.eq_iff_iff,beq_iff_eq,decide_eq_true_eq];omega
theorem JC (w:bT) (mb n:Nat) (aC:n<bt) (σ:ec) (cX:sK n σ) (arg:Int) (path:List Int) (aN:path.length≤2) (c:Nat) (aE:c<3) {E:List jV} (K:a6) (br:kL n E σ mb K) :
  bu Tryz.prog 291 [hk w mb,hL (b1 arg path),.int .i64 (c:Int)] K (fun o aL=>o = .ret (.bool (wo σ arg path c))∧kL n E σ mb aL):=by
 obtain ⟨es,rfl,cW⟩:=br;have ae:=uM w mb n σ es cW arg (path.length:Int) (path.getD 0 0) (path.getD 1 0);have j6:=cX.lg (b1 arg path);have U:=Ea c ai;have ju:1|||2^c<2^64:=Nat.or_lt_two_pow dd (Nat.pow_lt_pow_right ai ai)
 have al:=fun K br=>RN (E:=E) w mb n aC σ cX arg path aN K br
 have hm:wo σ arg path c=(decide (mM (σ (b1 arg path)).gk (1|||2^c)=0)&&(decide ((σ (b1 arg path)).no &&& (1|||2^c)=0)&&Et σ arg path)):=rfl;refine bu.bp ak call291 Tryz.func291 C C fun s I=>?_
 unfold hk at *;unfold hL ji at *;refine dF ?_;refine aa.b0 rfl rfl rfl rfl rfl ae I (au.all _) ?_ (fun _ _ ⟨_,_,h,_⟩ _=>by cases h);rintro _ _ ⟨b,R,⟨⟩,⟨c5,eZ,h9,gA⟩,rfl⟩ I;rw [List.append_nil] at I ⊢;unfold hq at I ⊢;refine cn I ?_;intro I;refine aa.bits ((mM (σ (b1 arg path)).gk (1|||2^c):Nat):Int) C C C C C C (AK j6.gk ju) ?_;refine d' ?_;cases qf:decide (mM (σ (b1 arg path)).gk (1|||2^c)=0) with
 | false=>
  refine aa.dR 21 C (by rw [yG];exact qf) ?_;refine cC ?_;rw [qf,Bool.false_and] at hm;exact Fin.bH I C aR (au.hC eZ) ⟨by rw [hm],c5,rfl,h9⟩
 | true=>
  refine aa.eH 21 C (by rw [yG];exact qf) ?_;refine cn I ?_;intro I;refine aa.bits (((σ (b1 arg path)).no &&& (1|||2^c):Nat):Int) C C C C C C (sn j6.no ju) ?_;refine d' ?_;cases lC:decide ((σ (b1 arg path)).no &&& (1|||2^c)=0) with
  | false=>
   refine aa.dR 30 C (by rw [yG];exact lC) ?_;refine cC ?_;rw [qf,lC,Bool.true_and,Bool.false_and] at hm;exact Fin.bH I C aR (au.hC eZ) ⟨by rw [hm],c5,rfl,h9⟩
  | true=>
   refine aa.eH 30 C (by rw [yG];exact lC) ?_;refine d' ?_;refine aa.k2 I (lh σ mb c5) (au.hC eZ) (fun I=>?_);refine aa.b0 rfl rfl rfl rfl rfl (al _ ⟨c5,rfl,h9⟩) I (au.all _) ?_ (fun _ _ ⟨h,_⟩ _=>by cases h);rintro _ hN ⟨⟨⟩,mV⟩ I;rw [List.append_nil] at I ⊢;refine dO ?_;rw [qf,lC,Bool.true_and,Bool.true_and] at hm;exact Fin.bH I C aR (au.all _) ⟨by rw [hm],mV⟩
def yH (σ:ec) (arg:Int) (path:List Int):Bool := !(σ (b1 arg path)).whole&&wo σ arg path 2
theorem RO (w:bT) (mb n:Nat) (aC:n<bt) (σ:ec) (cX:sK n σ) (arg:Int) (path:List Int) (aN:path.length≤2) {E:List jV} (K:a6) (br:kL n E σ mb K) :
  bu Tryz.prog 284 [hk w mb,hL (b1 arg path)] K (fun o aL=>o = .ret (.bool (yH σ arg path))∧kL n E σ mb aL):=by
 obtain ⟨es,rfl,cW⟩:=br;have ae:=uM w mb n σ es cW arg (path.length:Int) (path.getD 0 0) (path.getD 1 0);have al:=fun K br=>JC (E:=E) w mb n aC σ cX arg path aN 2 ai K br
 have hm:yH σ arg path=(!(σ (b1 arg path)).whole&&wo σ arg path 2):=rfl;refine bu.bp ak call284 Tryz.func284 C C fun s I=>?_
 unfold hk at *;unfold hL ji at *;refine dF ?_;refine aa.b0 rfl rfl rfl rfl rfl ae I (au.all _) ?_ (fun _ _ ⟨_,_,h,_⟩ _=>by cases h);rintro _ _ ⟨b,R,⟨⟩,⟨c5,eZ,h9,gA⟩,rfl⟩ I;rw [List.append_nil] at I ⊢;unfold hq at I ⊢;refine cn I ?_;intro I;cases hw:(σ (b1 arg path)).whole with
 | true=>
  refine aa.dR 12 C (by show (!(σ (b1 arg path)).whole)=false;rw [hw];rfl) ?_;refine cC ?_;rw [hw] at hm;exact Fin.bH I C aR (au.hC eZ) ⟨by rw [hm];rfl,c5,rfl,h9⟩
 | false=>
  refine aa.eH 12 C (by show (!(σ (b1 arg path)).whole)=true;rw [hw];rfl) ?_;refine d' ?_;refine aa.k2 I (lh σ mb c5) (au.hC eZ) (fun I=>?_);refine aa.b0 rfl rfl rfl rfl rfl (al _ ⟨c5,rfl,h9⟩) I (au.all _) ?_ (fun _ _ ⟨h,_⟩ _=>by cases h);rintro _ hN ⟨⟨⟩,mV⟩ I;rw [List.append_nil] at I ⊢;refine dO ?_;rw [hw] at hm;exact Fin.bH I C aR (au.all _) ⟨by rw [hm];rfl,mV⟩
def qn:Nat→Int→List Int→Int
 | 0,n,_=>n
 | k+1,n,l=>if l.contains n then qn k (n+1) l else n
def wq (k:fD):Int:=qn (k.e2.length+1) k.low k.e2
def yI (σ:ec) (arg:Int) (path:List Int):Bool:=decide (wq (σ (b1 arg path))≤(σ (b1 arg path)).high)&&wo σ arg path 1
end Go.Proofs.YtnafpeohfbglmaaGreat
namespace Go.Proofs.YtnafpeohfbglmaaGreat
open Go.bj Go.bY
def mW (n:Int) (l:List Int):Nat:=(l.filter fun x=>decide (x≥n)).length
theorem JD (n:Int) (l:List Int):mW n l≤l.length:=List.length_filter_le _ _
theorem JE (n:Int):∀ l:List Int,mW (n+1) l≤mW n l
  | []=>Nat.le_refl _
  | x::r=>by
    have a':=JE n r;unfold mW at *;rw [List.filter_cons,List.filter_cons];by_cases U:x≥n+1
    · rw [if_pos rk,if_pos dq,List.length_cons,List.length_cons];omega
    · rw [if_neg rk]
      split
      · rw [List.length_cons];omega
      · exact a'
theorem Eu {n:Int}:∀ {l:List Int},n∈l→mW (n+1) l<mW n l
  | x::r,h=>by
    have bB:=JE n r;unfold mW at *;rw [List.filter_cons,List.filter_cons];rcases List.mem_cons.1 h with rfl|h
    · rw [if_neg dq,if_pos bn,List.length_cons];omega
    · have a':=Eu h
      unfold mW at a';by_cases U:x≥n+1
      · rw [if_pos rk,if_pos dq,List.length_cons,List.length_cons];omega
      · rw [if_neg rk]
        split
        · rw [List.length_cons];omega
        · exact a'
theorem Ev:∀ (f lE:Nat) (n:Int) (l:List Int),mW n l<f→mW n l<lE→qn f n l=qn lE n l
  | f+1,lE+1,n,l,h,fs=>by
    rw [qn,qn];cases aE:l.contains n with
    | false=>rfl
    | true=>
      have:=Eu (n:=n) (l:=l) (by simpa using aE);simp only [if_true];exact Ev f lE (n+1) l ai ai
theorem RP (w:bT) (mb n:Nat) (aC:n<bt) (σ:ec) (cX:sK n σ) (arg:Int) (path:List Int) (aN:path.length≤2) {E:List jV} (K:a6) (br:kL n E σ mb K) :
  bu Tryz.prog 283 [hk w mb,hL (b1 arg path)] K (fun o aL=>o = .ret (.cl [.int .i64 (wq (σ (b1 arg path))),.bool (yI σ arg path)])∧kL n E σ mb aL):=by
 have an:=bQ;obtain ⟨es,rfl,cW⟩:=br;have ae:=uM w mb n σ es cW arg (path.length:Int) (path.getD 0 0) (path.getD 1 0);have al:=fun K br=>JC (E:=E) w mb n aC σ cX arg path aN 1 ai K br
 have hm:yI σ arg path=(decide (wq (σ (b1 arg path))≤(σ (b1 arg path)).high)&&wo σ arg path 1):=rfl;have j6:=cX.lg (b1 arg path);have CT:=j6.e2;have mT:=j6.num;have RQ:wq (σ (b1 arg path))=qn (mW (σ (b1 arg path)).low (σ (b1 arg path)).e2+1) (σ (b1 arg path)).low (σ (b1 arg path)).e2:=Ev _ _ _ _ (by have:=JD (σ (b1 arg path)).low (σ (b1 arg path)).e2;omega) ai;have k8:=fun v=>vO (σ (b1 arg path)).e2 v ai
 refine bu.bp ak call283 Tryz.func283 C C fun s I=>?_
 unfold hk at *;unfold hL ji at *;refine dF ?_;refine aa.b0 rfl rfl rfl rfl rfl ae I (au.all _) ?_ (fun _ _ ⟨_,_,h,_⟩ _=>by cases h);rintro _ _ ⟨b,R,⟨⟩,⟨c5,eZ,h9,gA⟩,rfl⟩ I;rw [List.append_nil] at I ⊢;unfold hq at I ⊢;refine cn I ?_;intro I;refine af.cT [0,3,6] C I (σ:=Int) (fun v=>[(7,.int .i64 v)]) (fun _=>hq σ ([arg,(path.length:Int),path.getD 0 0,path.getD 1 0],b)::R) (fun v=>wq (σ (b1 arg path))=qn (mW v (σ (b1 arg path)).e2+1) v (σ (b1 arg path)).e2∧(σ (b1 arg path)).low≤v∧v≤(σ (b1 arg path)).low+((σ (b1 arg path)).e2.length-mW v (σ (b1 arg path)).e2:Nat)) (fun v=>mW v (σ (b1 arg path)).e2) (σ (b1 arg path)).low ⟨RQ,Int.le_refl _,by omega⟩ (c3 C) (au.all _) ?_;rintro v ⟨av,q3,nY⟩ I;unfold hq at I ⊢;have qo:=k8 v;unfold bI at qo;cases aE:(σ (b1 arg path)).e2.contains v with
 | true=>
  rw [aE] at qo;have aG:=Eu (n:=v) (l:=(σ (b1 arg path)).e2) (by simpa using aE);have hle:=JD v (σ (b1 arg path)).e2;rw [qn,aE] at av;simp only [if_true] at av;have dU:IntKind.wrap .i64 (v+1)=v+1:=e0 ai ai;refine gu I ?_;intro I;refine bX.mk (v+1) I ⟨?_,by omega,by omega⟩ (by repeat (first|exact trivial|refine ⟨⟨_,rfl,aR⟩,?_⟩|refine ⟨⟨_,rfl,a8.of_eq (by (rw [dU]))⟩,?_⟩)) (au.all _) aG;rw [av];exact Ev _ _ _ _ ai ai
 | false=>
  rw [aE] at qo;rw [qn,aE] at av;simp only [Bool.false_eq_true,if_false] at av;subst av;refine cn I ?_;intro I;cases ar:decide (wq (σ (b1 arg path))≤(σ (b1 arg path)).high) with
  | false=>
   refine aa.dR 33 C ar ?_;refine cC ?_;rw [ar] at hm;exact Fin.bH I C aR (au.hC eZ) ⟨by rw [hm];rfl,c5,rfl,h9⟩
  | true=>
   refine aa.eH 33 C ar ?_;refine d' ?_;refine aa.k2 I (lh σ mb c5) (au.hC eZ) (fun I=>?_);refine aa.b0 rfl rfl rfl rfl rfl (al _ ⟨c5,rfl,h9⟩) I (au.all _) ?_ (fun _ _ ⟨h,_⟩ _=>by cases h);rintro _ hN ⟨⟨⟩,mV⟩ I;rw [List.append_nil] at I ⊢;refine dO ?_;rw [ar] at hm;exact Fin.bH I C aR (au.all _) ⟨by rw [hm];rfl,mV⟩
end Go.Proofs.YtnafpeohfbglmaaGreat
namespace Go.Proofs.YtnafpeohfbglmaaGreat
open Go.bj Go.bY
def sL (w:bT) (s:Int):Nat:=(w.owner.getD s.toNat 0).toNat
def rI (w:bT) (σ:ec) (kf:List Int→Bool) (arg:Int) (path:List Int):List Int→Nat→Nat→Option (Nat×Nat)
 | [],m,n=>some (m,n)
 | s::r,m,n=>
  if (σ (b1 arg (path++[s]))).nH && !kf (path++[s]) then none
  else if (σ (b1 arg (path++[s]))).nH then rI w σ kf arg path r (m|||2^sL w s) n
  else if kf (path++[s]) then rI w σ kf arg path r m n
  else rI w σ kf arg path r m (n|||2^sL w s)
def wu (w:bT) (m:Nat) (i:Nat):Nat:=if m.testBit (3+i) then m|||(hW w.bK).getD (3+i) 0 else m
def yJ (w:bT) (m:Nat):Nat:=(List.range w.bK.length).foldl (wu w) m
def yK (w:bT) (σ:ec) (kf:List Int→Bool) (arg:Int) (path:List Int):Nat×Bool:=
 if (σ (b1 arg path)).whole||((σ (b1 arg path)).gk.testBit 1||((σ (b1 arg path)).gk.testBit 2||(σ (b1 arg path)).no.testBit 0)) then (0,false)
 else match rI w σ kf arg path (σ (b1 arg path)).bx (σ (b1 arg path)).gk (σ (b1 arg path)).no with
  | none=>(0,false)
  | some (m,n)=>(mM (yJ w m) 1,decide (mM (yJ w m) 1 &&& n=0))
theorem aP.yC {o:bU} {cQ:db}:∀ {L:a6},(o,cQ)∈L→∃ R,aP L o cQ R
  | e::L,h=>by
    rcases List.mem_cons.1 h with rfl|h
    · exact ⟨_,aP.here⟩
    · obtain ⟨R,h⟩:=aP.yC h
      exact ⟨_,aP.there h⟩
structure Ba (w:bT) (σ:ec):Prop where
 slot:∀ q,∀ x∈(σ q).bx,0≤x∧x<(w.owner.length:Int)
def JF (w:bT) (mb n:Nat) (σ:ec) (arg:Int) (kf:List Int→Bool) (path:List Int):Prop:=
 ∀ (E:List jV) (K:a6),kL n E σ mb K→bu Tryz.prog 270 [hk w mb,hL (b1 arg path)] K (fun o aL=>o = .ret (.bool (kf path))∧kL n E σ mb aL)
theorem RR (w:bT) (hw:kc w) (mb n:Nat) (aC:n<bt) (σ:ec) (cX:sK n σ) (gR:Ba w σ) (arg:Int) (path:List Int) (aN:path.length≤2) (kf:List Int→Bool) (uN:path.length<2→∀ s,JF w mb n σ arg kf (path++[s])) {E:List jV} (K:a6) (br:kL n E σ mb K) :
  bu Tryz.prog 285 [hk w mb,hL (b1 arg path)] K (fun o aL=>o = .ret (.cl [.int .u64 ((yK w σ kf arg path).1:Int),.bool (yK w σ kf arg path).2])∧kL n E σ mb aL):=by
 have an:=bQ;obtain ⟨es,rfl,cW⟩:=br;have ae:=uM w mb n σ es cW arg (path.length:Int) (path.getD 0 0) (path.getD 1 0);have j6:=cX.lg (b1 arg path);have hm:yK w σ kf arg path=if (σ (b1 arg path)).whole||((σ (b1 arg path)).gk.testBit 1||((σ (b1 arg path)).gk.testBit 2||(σ (b1 arg path)).no.testBit 0)) then (0,false)
  else match rI w σ kf arg path (σ (b1 arg path)).bx (σ (b1 arg path)).gk (σ (b1 arg path)).no with
   | none=>(0,false)
   | some (m,n)=>(mM (yJ w m) 1,decide (mM (yJ w m) 1 &&& n=0)):=rfl
 have g1:=wa (σ (b1 arg path)).gk 1 j6.gk ai;have g2:=wa (σ (b1 arg path)).gk 2 j6.gk ai;have g0:=wa (σ (b1 arg path)).no 0 j6.no ai;have wj:=fun bw h=>JB arg path bw h
 refine bu.bp ak call285 Tryz.func285 C C fun s I=>?_
 unfold hk at *;unfold hL ji at *;refine dF ?_;refine aa.b0 rfl rfl rfl rfl rfl ae I (au.all _) ?_ (fun _ _ ⟨_,_,h,_⟩ _=>by cases h);rintro _ _ ⟨b,R,⟨⟩,⟨c5,eZ,h9,gA⟩,rfl⟩ I;rw [List.append_nil] at I ⊢;unfold hq at I ⊢;refine rj I ?_;intro I;cases wv:(σ (b1 arg path)).whole with
 | true=>
  refine aa.eH 30 C wv ?_;refine cC ?_;rw [wv,Bool.true_or,if_pos C] at hm;exact Fin.bH I C aR (au.hC eZ) ⟨by rw [hm];rfl,c5,rfl,h9⟩
 | false=>
 refine aa.dR 30 C wv ?_;refine cH ?_;cases mF:(σ (b1 arg path)).gk.testBit 1 with
 | true=>
  refine cC ?_;rw [mF,Bool.true_or,Bool.or_true,if_pos C] at hm;exact Fin.bH I C aR (au.hC eZ) ⟨by rw [hm];rfl,c5,rfl,h9⟩
 | false=>
 refine cH ?_;cases h4:(σ (b1 arg path)).gk.testBit 2 with
 | true=>
  refine cC ?_;rw [h4,Bool.true_or,Bool.or_true,Bool.or_true,if_pos C] at hm;exact Fin.bH I C aR (au.hC eZ) ⟨by rw [hm];rfl,c5,rfl,h9⟩
 | false=>
 refine cH ?_;cases JG:(σ (b1 arg path)).no.testBit 0 with
 | true=>
  refine cC ?_;rw [JG,Bool.or_true,Bool.or_true,Bool.or_true,if_pos C] at hm;exact Fin.bH I C aR (au.hC eZ) ⟨by rw [hm];rfl,c5,rfl,h9⟩
 | false=>
 rw [wv,mF,h4,JG] at hm;simp only [Bool.or_self,Bool.false_eq_true,if_false] at hm;refine cn I ?_;intro I;have W':=j6.bx;refine af.cT [0,3,45,46] C I (σ:=Nat×Nat×Nat×List jV) (fun q=>[(47,.int .i64 (q.1:Int)),(7,.int .u64 (q.2.1:Int)),(8,.int .u64 (q.2.2.1:Int))]) (fun q=>lh σ mb q.2.2.2)
  (fun q=>q.1≤(σ (b1 arg path)).bx.length∧rI w σ kf arg path (σ (b1 arg path)).bx (σ (b1 arg path)).gk (σ (b1 arg path)).no=rI w σ kf arg path ((σ (b1 arg path)).bx.drop q.1) q.2.1 q.2.2.1∧q.2.1<2^64∧q.2.2.1<2^64∧uL n E σ q.2.2.2)
  (fun q=>(σ (b1 arg path)).bx.length-q.1) (0,(σ (b1 arg path)).gk,(σ (b1 arg path)).no,c5) ⟨Nat.zero_le _,by rw [List.drop_zero],j6.gk,j6.no,h9⟩ (c3 C) (au.hC eZ) ?_
 rintro ⟨j,m,uO,Ew⟩ ⟨aS,ba,wx,wy,sJ⟩ I;simp only at aS ba wx wy sJ I ⊢;refine cL ?_;refine af.cond C (fun aG=>?_) (fun bk=>?_);rotate_left
 ·have bk:j=(σ (b1 arg path)).bx.length:=by
   have:¬ (j<(σ (b1 arg path)).bx.length):=by simpa [b1] using bk
   omega
  subst bk;rw [List.drop_length,rI] at ba;rw [ba] at hm;simp only at hm;refine bP ?_;refine af.cT [0,3] C I (σ:=Nat×Nat) (fun q=>[(14,.int .i64 ((3+q.1:Nat):Int)),(7,.int .u64 (q.2:Int)),(8,.int .u64 (uO:Int))]) (fun q=>lh σ mb Ew)
   (fun q=>q.1≤w.bK.length∧q.2=(List.range q.1).foldl (wu w) m∧q.2<2^64) (fun q=>w.bK.length-q.1) (0,m) ⟨Nat.zero_le _,rfl,wx⟩ (c3 C) (au.all _) ?_
  rintro ⟨c,gv⟩ ⟨aE,Ex,ev⟩ I;simp only at aE Ex ev I ⊢;have Ey:=hw.mP;have dU:IntKind.wrap .i64 (3+((w.bK.map bI).length:Int))=3+(w.bK.length:Int):=by rw [List.length_map,e0 ai ai]
  refine cL ?_;refine af.cond C (fun c6=>?_) (fun e1=>?_);rotate_left
  ·have e1:c=w.bK.length:=by rw [dU] at e1;simp at e1;omega
   subst e1;have RS:yJ w m=gv:=Ex.symm;rw [RS] at hm;refine bP ?_;refine aa.bits ((mM gv 1:Nat):Int) C C C C C C (AK ev dd) ?_;refine gB ?_;refine aa.bits ((mM gv 1 &&& uO:Nat):Int) C C C C C C (sn (Nat.and_lt_two_pow _ (Nat.xor_lt_two_pow dd dd)) wy) ?_;refine dO ?_;exact Fin.bH I C aR (au.all _) ⟨by rw [hm];simp only [yG],Ew,rfl,sJ⟩
  have c6:c<w.bK.length:=by rw [dU] at c6;simp at c6;omega
  have ju:=yd w.bK;obtain ⟨u,hu⟩:∃ u,(hW w.bK)[3+c]? = some u:=⟨_,List.getElem?_eq_getElem ai⟩;have RT:(hW w.bK).getD (3+c) 0=u:=by rw [List.getD_eq_getElem?_getD,hu];rfl
  have uP:=vZ Ey u (List.mem_of_getElem? hu);have c':=wa gv (3+c) ev ai;have aF:(List.range (c+1)).foldl (wu w) m=wu w gv c:=by rw [List.range_succ,List.foldl_append,← Ex];rfl
  have ml:wu w gv c=if gv.testBit (3+c) then gv|||u else gv:=by unfold wu;rw [RT]
  rw [ml] at aF;have ao:=ym (w:=w) (v7 hu);have xk:gv|||u<2^64:=Nat.or_lt_two_pow ev uP
  cases JH:gv.testBit (3+c) with
  | false=>
   rw [JH] at c' aF;simp only [Bool.false_eq_true,if_false] at aF;refine cy ?_;exact bX.mk (c+1,gv) I ⟨c6,aF.symm,ev⟩ Jk (au.all _) (by show w.bK.length-(c+1)<w.bK.length-c;omega)
  | true=>
   rw [JH] at c' aF;simp only [if_true] at aF;refine cH ?_;refine aa.kB ak (3+c) C C C C C C C C C C ai ?_;refine aa.x9 ak C C C C C C C (by simpa using ao) ?_;skip;refine aa.bits ((gv|||u:Nat):Int) C C C C C C (uf ev uP) ?_;refine h8 ?_;exact bX.mk (c+1,gv|||u) I ⟨c6,aF.symm,xk⟩ Jk (au.all _) (by show w.bK.length-(c+1)<w.bK.length-c;omega)
 have aG:j<(σ (b1 arg path)).bx.length:=by simpa [b1] using aG
 obtain ⟨bw,ay,ey⟩:=cD (f:=bg) aG;have jn:path.length<2:=by
  rcases Nat.lt_or_ge path.length 2 with h|h
  ·exact h
  ·rw [cX.deep arg path h] at aG;cases aG
 have Xa:=gR.slot _ bw (List.mem_of_getElem? ay);obtain ⟨k,rfl⟩:∃ k:Nat,bw=(k:Int):=⟨bw.toNat,by omega⟩;have uQ:k<w.owner.length:=by omega
 have Xb:=hw.own _ (List.getElem_mem uQ);have Ey:=hw.mP;have JI:w.owner[k]? = some ((sL w (k:Int):Nat):Int):=by
  unfold sL;rw [List.getElem?_eq_getElem uQ,Int.toNat_natCast,List.getD_eq_getElem?_getD,List.getElem?_eq_getElem uQ];simp only [Option.getD_some];congr 1;omega
 have yL:sL w (k:Int)<64:=by
  unfold sL;rw [Int.toNat_natCast,List.getD_eq_getElem?_getD,List.getElem?_eq_getElem uQ];simp only [Option.getD_some];omega
 have RU:(w.owner.map bg)[k]? = some (.int .i64 ((sL w (k:Int):Nat):Int)):=by simp [JI,bg]
 have RV:=yl m _ wx yL;have RW:=yl uO _ wy yL;have Xc:=wj (k:Int) jn;have RX:=uN jn (k:Int);have al:=uM w mb n σ Ew sJ arg ((path++[(k:Int)]).length:Int) ((path++[(k:Int)]).getD 0 0) ((path++[(k:Int)]).getD 1 0);have il:(σ (b1 arg path)).bx.drop j=(k:Int)::(σ (b1 arg path)).bx.drop (j+1):=by
  rw [List.drop_eq_getElem_cons aG];rw [List.getElem?_eq_getElem aG] at ay;simp only [Option.some.injEq] at ay;rw [ay]
 rw [il,rI] at ba;clear wj uN;generalize sL w (k:Int)=qg at JI yL RU RV RW ba;refine OP ?_;intro dc il dX;refine bf.runs (is:=[0,1,6,7]) C ?_;refine bf.b0 2 rfl rfl rfl rfl rfl rfl rfl al I (au.all _) ?_ (fun _ _ ⟨_,_,h,_⟩ _=>by cases h);rintro _ _ ⟨dk,Xd,⟨⟩,⟨Ez,RY,Bb,RZ⟩,rfl⟩ I;rw [List.append_nil] at I ⊢;refine bf.runs (is:=[3,4]) C ?_;have R0:=RX Ez _ ⟨Ez,rfl,Bb.four,Bb.rest,Bb.lg,fun x ab=>ab⟩;refine bf.OD (σ:=List jV) (fun _ => .bool (kf (path++[(k:Int)]))) (fun z=>aQ s (lh σ mb z)) (fun z=>Ok s (lh σ mb z)∧uL n Ez σ z) (i:=5) (j:=8) ak C C C C C C C C C C C C (aP.get aP.here I) C C C C
  (aU.b0 rfl rfl R0 I (au.hC RY)) ?_ (fun z _ h=>h) ?_ ?_ (fun _ _ ⟨_,_,_,h,_⟩=>by cases h)
 ·rintro y ah ⟨aL,rfl,vR,⟨⟩,uR,rfl,sM⟩
  rw [List.append_nil] at vR ⊢;exact ⟨uR,⟨vR,sM⟩,rfl,rfl⟩
 ·rintro z ⟨wz,sM⟩ h
  have R1:=sM.keep _ RZ;obtain ⟨Xe,R2⟩:=aP.yC (o := .own dk) (L:=lh σ mb z) (List.mem_cons_of_mem _ (List.mem_map.2 ⟨_,R1,rfl⟩));refine bf.dS 5 ak wz C C C C C C C C R2 C ?_;exact bf.congr _ (fun t=>OB _ _ _ C t) h
 rintro uR ⟨wz,sM⟩;refine bf.run C (bf.done C ?_);have Bc:uL n E σ uR:=⟨sM.four,sM.rest,sM.lg,fun x ab=>sM.keep x (Bb.keep x ab)⟩;have EA:m|||2^qg<2^64:=Nat.or_lt_two_pow wx (Nat.pow_lt_pow_right ai yL)
 have R3:uO|||2^qg<2^64:=Nat.or_lt_two_pow wy (Nat.pow_lt_pow_right ai yL)
 unfold fx eC oi hf bI at *;cases uS:kf (path++[(k:Int)]) with
 | false=>
  refine fA ?_;cases eT:(σ (b1 arg (path++[(k:Int)]))).nH with
  | true=>
   refine aa.eH 65 C eT ?_;refine cC ?_;rw [uS,eT] at ba;simp only [Bool.not_false,Bool.and_self,if_true] at ba;rw [ba] at hm;exact Fin.bH wz C aR (au.all _) ⟨by rw [hm];rfl,uR,rfl,Bc⟩
  | false=>
   refine aa.dR 65 C eT ?_;refine aa.dR 12 C eT ?_;refine cy ?_;rw [uS,eT] at ba;simp only [Bool.false_and,Bool.false_eq_true,if_false] at ba;exact bX.mk (j+1,m,uO|||2^qg,uR) wz ⟨aG,ba,wx,R3,Bc⟩ c7 (au.all _) Ek
 | true=>
  refine fA ?_;cases eT:(σ (b1 arg (path++[(k:Int)]))).nH with
  | true=>
   refine aa.eH 65 C eT ?_;refine aa.eH 12 C eT ?_;refine cy ?_;rw [uS,eT] at ba;simp only [Bool.not_true,Bool.and_false,Bool.false_eq_true,if_false,if_true] at ba;exact bX.mk (j+1,m|||2^qg,uO,uR) wz ⟨aG,ba,EA,wy,Bc⟩ c7 (au.all _) Ek
  | false=>
   refine aa.dR 65 C eT ?_;refine aa.dR 12 C eT ?_;refine bP ?_;rw [uS,eT] at ba;simp only [Bool.false_and,Bool.false_eq_true,if_false,if_true] at ba;exact bX.mk (j+1,m,uO,uR) wz ⟨aG,ba,wx,wy,Bc⟩ c7 (au.all _) Ek
end Go.Proofs.YtnafpeohfbglmaaGreat
namespace Go.Proofs.YtnafpeohfbglmaaGreat
open Go.bj Go.bY
def sN (w:bT) (σ:ec) (arg:Int):Nat→List Int→Bool
 | 0,_=>false
 | k+1,p=>yI σ arg p||(yH σ arg p||(yK w σ (sN w σ arg k) arg p).2)
theorem JJ (w:bT) (hw:kc w) (mb n:Nat) (aC:n<bt) (σ:ec) (cX:sK n σ) (gR:Ba w σ) (arg:Int):∀ (k:Nat) (path:List Int),path.length≤2→3≤k+path.length→JF w mb n σ arg (sN w σ arg k) path
  | 0,path,aN,al=>by omega
  | k+1,path,aN,al=>by
    intro E K br;have U:=fun K br=>RP (E:=E) w mb n aC σ cX arg path aN K br
    have ae:=fun K br=>RO (E:=E) w mb n aC σ cX arg path aN K br
    have bl:=fun K br=>RR (E:=E) w hw mb n aC σ cX gR arg path aN (sN w σ arg k) (fun aI bw=>JJ w hw mb n aC σ cX gR arg k (path++[bw]) (by rw [List.length_append];simp;omega) (by rw [List.length_append];simp;omega)) K br
    have hm:sN w σ arg (k+1) path=(yI σ arg path||(yH σ arg path||(yK w σ (sN w σ arg k) arg path).2)):=rfl;refine bu.bp ak call270 Tryz.func270 C C fun s I=>?_
    unfold hk at *;unfold hL ji at *;refine dF ?_;refine aa.b0 rfl rfl rfl rfl rfl (U K br) I (au.all _) ?_ (fun _ _ ⟨h,_⟩ _=>by cases h);rintro _ hN ⟨⟨⟩,mV⟩ I;rw [List.append_nil] at I ⊢;refine gB ?_;cases aY:yI σ arg path with
    | true=>
      refine cC ?_;rw [aY] at hm;exact Fin.bH I C aR (au.all _) ⟨by rw [hm];rfl,mV⟩
    | false=>
      refine d' ?_;refine aa.b0 rfl rfl rfl rfl rfl (ae hN mV) I (au.all _) ?_ (fun _ _ ⟨h,_⟩ _=>by cases h);rintro _ EB ⟨⟨⟩,yM⟩ I;rw [List.append_nil] at I ⊢;refine hv ?_;cases jZ:yH σ arg path with
      | true=>
        refine cC ?_;rw [aY,jZ] at hm;exact Fin.bH I C aR (au.all _) ⟨by rw [hm];rfl,yM⟩
      | false=>
        refine bP ?_;refine aa.b0 rfl rfl rfl rfl rfl (bl EB yM) I (au.all _) ?_ (fun _ _ ⟨h,_⟩ _=>by cases h);rintro _ Xf ⟨⟨⟩,R4⟩ I;rw [List.append_nil] at I ⊢;refine cC ?_;rw [aY,jZ] at hm;exact Fin.bH I C aR (au.all _) ⟨by rw [hm];rfl,R4⟩
end Go.Proofs.YtnafpeohfbglmaaGreat
namespace Go.Proofs.YtnafpeohfbglmaaGreat
open Go.bj Go.bY
def ou (w:bT) (σ:ec):Bool:=(List.range 3).all fun a=>sN w σ ((a:Nat):Int) 3 []
def EC:ad := .iface 291 (.agg [])
theorem R5 (w:bT) (hw:kc w) (mb n:Nat) (aC:n<bt) (σ:ec) (cX:sK n σ) (gR:Ba w σ) {E:List jV} (K:a6) (br:kL n E σ mb K) :
  bu Tryz.prog 249 [hk w mb] K (fun o aL=>(o=if ou w σ then .ret (.cl []) else .panic EC)∧kL n E σ mb aL):=by
 have U:=fun (a:Nat) K br=>JJ w hw mb n aC σ cX gR ((a:Nat):Int) 3 [] bn bn E K br
 refine bu.bp ak call249 Tryz.func249 C C fun s I=>?_
 unfold hk at *;unfold hL ji at *;refine iO ?_;refine af.cT [0] C I (σ:=Nat×a6) (fun q=>[(3,.int .i64 (q.1:Int))]) (fun q=>q.2) (fun q=>q.1≤3∧((List.range q.1).all fun a=>sN w σ ((a:Nat):Int) 3 [])=true∧kL n E σ mb q.2) (fun q=>3-q.1) (0,K) ⟨by omega,rfl,br⟩ (c3 C) (au.all _) ?_;rintro ⟨j,hN⟩ ⟨aS,aV,mV⟩ I;simp only at aS aV mV I ⊢;refine cL ?_;refine af.cond C (fun aG=>?_) (fun bk=>?_);rotate_left
 ·have bk:j=3:=by simp at bk;omega
  subst bk;have hm:ou w σ=true:=aV;refine fJ ?_;exact Fin.bH I C aR (au.all _) ⟨by rw [hm];rfl,mV⟩
 have aG:j<3:=by simp at aG;omega
 refine bP ?_;refine aa.b0 rfl rfl rfl rfl rfl (U j hN mV) I (au.all _) ?_ (fun _ _ ⟨h,_⟩ _=>by cases h);rintro _ EB ⟨⟨⟩,yM⟩ I;rw [List.append_nil] at I ⊢;refine hv ?_;cases aE:sN w σ ((j:Nat):Int) 3 [] with
 | false=>
  refine bP ?_;refine aa.panic C C C C ?_;have hm:ou w σ=false:=by
   unfold ou;rw [List.all_eq_false];exact ⟨j,by simpa using aG,by rw [aE];simp⟩
  exact Fin.eM I aR (au.all _) ⟨by rw [hm];rfl,yM⟩
 | true=>
  refine bP ?_;exact bX.mk (j+1,EB) I ⟨aG,by rw [List.range_succ,List.all_append,aV];simp [aE],yM⟩ c7 (au.all _) (by show 3-(j+1)<3-j;omega)
end Go.Proofs.YtnafpeohfbglmaaGreat
namespace Go.bY
open Go.Proofs.YtnafpeohfbglmaaGreat
mutual
def lj:ax→List ax
 | .mk o a p c n ks=>if (ax.mk o a p c n ks).du then [.mk o a p c n ks] else nN ks
def nN:List ax→List ax
 | []=>[]
 | x::r=>lj x++nN r
end
theorem ED (f:ax):lj f=if f.du then [f] else nN f.kids:=by cases f;rw [lj];rfl
def fW (f g:ax):Bool:=decide (f.op=g.op)&&(decide (f.arg=g.arg)&&(decide (f.cls=g.cls)&&(decide (f.n=g.n)&&f.path==g.path)))
def jj (l:List ax) (f:ax):List ax:=if l.any (fun x=>fW x f) then l else l++[f]
def kM (gen:Int) (l:List ax) (m:kC):List ax:=if m.gen=gen then (lj m.fact).foldl jj l else l
def cI (p:b9) (gen:Int):List ax:=p.methods.foldl (kM gen) []
def rJ (p:b9) (gen:Int):Bool:=decide (gen≥0)&&decide (gen<(p.eY.length:Int))
def e3 (p:b9) (gen:Int):Int:=if hg p&&rJ p gen then (if (cI p gen).length≤7 then 0 else 3) else 2
def yN:Nat→List ax→Nat→List ez
 | _,[],_=>[]
 | i,f::r,v=>(f,!v.testBit i)::yN (i+1) r v
def JK (l:List ax) (v:Nat):List ez:=yN 0 l v
def ov (w:bT) (l:List ax) (v:Nat):Bool:=ou w (iT (JK l v))
def hO (w:bT) (l:List ax):List Nat:=(List.range (2^l.length)).filter (ov w l)
mutual
def rK (l:List ax) (v:Nat):ax→Bool
 | .mk o a p c n ks=>
  if o=1 then true
  else if o=5 then !(mX l v 0 ks)
  else if o=6 then mX l v 0 ks&&mX l v 1 ks
  else if o=7 then mX l v 0 ks||mX l v 1 ks
  else match l.findIdx? (fun x=>fW x (.mk o a p c n ks)) with
   | some i=>v.testBit i
   | none=>false
def mX (l:List ax) (v:Nat):Nat→List ax→Bool
 | _,[]=>false
 | 0,x::_=>rK l v x
 | n+1,_::r=>mX l v n r
end
theorem Bd (l:List ax) (v:Nat):∀ (n:Nat) (ks:List ax) (x:ax),ks[n]? = some x→mX l v n ks=rK l v x
 | 0,y::r,x,h=>by rw [mX];simp at h;rw [h]
 | n+1,y::r,x,h=>by rw [mX];exact Bd l v n r x gn
theorem R6 (l:List ax) (v:Nat) (f:ax):rK l v f =
  if f.op=1 then true
  else if f.op=5 then !(mX l v 0 f.kids)
  else if f.op=6 then mX l v 0 f.kids&&mX l v 1 f.kids
  else if f.op=7 then mX l v 0 f.kids||mX l v 1 f.kids
  else match l.findIdx? (fun x=>fW x f) with
   | some i=>v.testBit i
   | none=>false:=by cases f;rw [rK];rfl
def sO (gen:Int) (l:List ax) (v:Nat):Nat→List kC→List Int
 | _,[]=>[]
 | i,m::r=>if m.gen=gen&&rK l v m.fact then (i:Int)::sO gen l v (i+1) r else sO gen l v (i+1) r
def dw (p:b9) (gen:Int) (l:List ax) (v:Nat):List Int:=sO gen l v 0 p.methods
inductive ca where
 | leaf (ms:List Int)
 | test (atom:Nat) (no yes:ca)
 deriving Inhabited
namespace ca
def iD:ca→Nat
 | .leaf _=>0
 | .test _ a b=>1+max a.iD b.iD
def leaves:ca→Nat
 | .leaf _=>1
 | .test _ a b=>a.leaves+b.leaves
def before (a b:ca):Bool:=decide (a.iD<b.iD)||(decide (a.iD=b.iD)&&decide (a.leaves<b.leaves))
def laid:List bC→ca→List bC
 | l,.leaf ms=>l++[⟨-1,0,0,ms⟩]
 | l,.test i a b=>
  let wA:=laid (l++[⟨i,0,0,[]⟩]) a
  let fl:=laid wA b
  fl.set l.length ⟨i,(l.length:Int)+1,(wA.length:Int),[]⟩
end ca
def pv (have':Nat→List Int):List Nat→Bool
 | []=>true
 | v::r=>r.all fun u=>have' u==have' v
def firstM (have':Nat→List Int):List Nat→List Int
 | []=>[]
 | v::_=>have' v
def uT (out:Option ca) (t:ca):Option ca:=match out with
 | none=>some t
 | some o=>if t.before o then some t else some o
def fE (i:Nat) (vs:List Nat):List Nat:=vs.filter fun v=>v.testBit i
def fF (i:Nat) (vs:List Nat):List Nat:=vs.filter fun v => !v.testBit i
def kN (g:List Nat→ca) (vs:List Nat) (out:Option ca) (i:Nat):Option ca:=
 if (fE i vs).isEmpty||(fF i vs).isEmpty then out else uT out (.test i (g (fF i vs)) (g (fE i vs)))
def lS (A:Nat) (have':Nat→List Int):Nat→List Nat→ca
 | 0,vs => .leaf (firstM have' vs)
 | f+1,vs=>if pv have' vs then .leaf (firstM have' vs) else ((List.range A).foldl (kN (lS A have' f) vs) none).getD (.leaf [])
def sP (p:b9) (gen:Int):ca:=
 let l:=cI p gen
 let vs:=hO (cu p) l
 lS l.length (dw p gen l) vs.length vs
def wB (g:List bC) (v:Nat):Nat→Int→Nat→Int×Nat
 | 0,eo,n=>(eo,n)
 | f+1,eo,n=>
  if (g.getD eo.toNat default).atom≥0 then wB g v f (if v.testBit (g.getD eo.toNat default).atom.toNat then (g.getD eo.toNat default).yes else (g.getD eo.toNat default).no) (n+1)
  else (eo,n)
def leads (g:List bC) (v:Nat):Int×Nat:=wB g v g.length 0 0
def yO (p:b9) (gen:Int) (g:List bC):Bool:=
 let l:=cI p gen
 g.all (fun x=>decide (x.atom<(l.length:Int)))&&(hO (cu p) l).all fun v=>(g.getD (leads g v).1.toNat default).ms==dw p gen l v
end Go.bY
namespace Go.Proofs.YtnafpeohfbglmaaGreat
open Go.bj Go.bY
theorem Be (v c:Nat):(((v >>> c &&& 1:Nat):Int)==1)=v.testBit c:=by
 rw [show (((v >>> c &&& 1:Nat):Int)==1)=decide (((v >>> c &&& 1:Nat):Int)=1) from rfl,Nat.and_one_is_mod,Nat.testBit_eq_decide_div_mod_eq,Nat.shiftRight_eq_div_pow];apply decide_eq_decide.2;omega
theorem JL (g:List bC) (ao:fP g=true) (v:Nat) (av:v<2^63):a7 Tryz.prog 75 [eR g,.int .i64 (v:Int)] (.cl [.int .i64 (leads g v).1,.int .i64 ((leads g v).2:Int)]):=by
 have an:=bQ;refine a7.bp ak call75 Tryz.func75 C C fun s I=>?_
 obtain ⟨l6,ev⟩:=vV ao;unfold eR;refine iO ?_;refine af.cT [0,1] C I (σ:=Nat×Nat×Nat) (fun q=>[(4,.int .i64 (q.1:Int)),(5,.int .i64 (q.2.1:Int))]) (fun _=>[]) (fun q=>q.1<g.length∧leads g v=wB g v q.2.2 (q.1:Int) q.2.1∧g.length≤q.1+q.2.2∧q.2.1≤q.1) (fun q=>g.length-q.1) (0,0,g.length) ⟨l6,rfl,by simp,Nat.le_refl _⟩ (c3 C) bM ?_;rintro ⟨j,n,f⟩ ⟨aS,aH,ba,aC⟩ I
 try simp only at aS aH ba aC I ⊢
 obtain ⟨x,ab,ch⟩:=cD (f:=de) aS;have aX:=ry ao ab;obtain ⟨f,rfl⟩:∃ k,f=k+1:=⟨f-1,by omega⟩;rw [wB,Int.toNat_natCast,show g.getD j default=x by rw [List.getD_eq_getElem?_getD,ab];rfl] at aH;unfold de fj bI at ch;refine fA ?_;refine af.cond C (fun aV=>?_) (fun aV=>?_);rotate_left
 ·rw [if_neg (by simpa using aV)] at aH
  rw [aH];refine fJ ?_;exact bA I
 have aV:x.atom≥0:=by simpa using aV
 rw [if_pos aV] at aH;have dN:=(iS ai).1 aX;obtain ⟨a,JM⟩:∃ a:Nat,x.atom=a:=⟨x.atom.toNat,by omega⟩;rw [JM,Int.toNat_natCast] at aH;rw [JM] at ch;refine bP ?_;refine aa.shr _ C C C C C C ai (so ai) ?_;refine aa.bits _ C C C C C C (AJ (n:=1) (Nat.lt_of_le_of_lt (Nat.shiftRight_le v a) av) ai) ?_;refine hv ?_;have an:=Be v a;refine af.cond C (fun aE=>?_) (fun aE=>?_)
 ·rw [aE] at an
  rw [← an,if_pos C] at aH;obtain ⟨y,ay⟩:∃ y:Nat,x.yes=y:=⟨x.yes.toNat,by omega⟩;rw [ay] at aH ch;refine bP ?_;exact bX.mk (y,n+1,f) I ⟨by show y<g.length;omega,by rw [aH],by show g.length≤y+f;omega,by show n+1≤y;omega⟩ c7 bM (by show g.length-y<g.length-j;omega)
 ·rw [aE] at an
  rw [← an,if_neg bn] at aH;obtain ⟨y,ay⟩:∃ y:Nat,x.no=y:=⟨x.no.toNat,by omega⟩;rw [ay] at aH ch;refine bP ?_;exact bX.mk (y,n+1,f) I ⟨by show y<g.length;omega,by rw [aH],by show g.length≤y+f;omega,by show n+1≤y;omega⟩ c7 bM (by show g.length-y<g.length-j;omega)
theorem JN {g:List bC} (ao:fP g=true) (v:Nat):∃ j x,(leads g v).1=(j:Nat)∧g[j]? = some x∧¬ x.atom≥0:=by
 obtain ⟨l6,ev⟩:=vV ao;suffices h:∀ (f j n:Nat),j<g.length→g.length≤j+f→∃ k x,(wB g v f (j:Int) n).1=(k:Nat)∧g[k]? = some x∧¬ x.atom≥0 from h g.length 0 0 l6 bn
 intro f
 induction f with
 | zero=>intro j n U ae;omega
 | succ f a'=>
  intro j n U ae;obtain ⟨x,ab,-⟩:=cD (f:=de) U;have aX:=ry ao ab;rw [wB,Int.toNat_natCast,show g.getD j default=x by rw [List.getD_eq_getElem?_getD,ab];rfl];by_cases aV:x.atom≥0
  ·rw [if_pos aV]
   have dN:=(iS ai).1 aX;split
   ·obtain ⟨y,ay⟩:∃ y:Nat,x.yes=y:=⟨x.yes.toNat,by omega⟩
    rw [ay];exact a' y (n+1) ai ai
   ·obtain ⟨y,ay⟩:∃ y:Nat,x.no=y:=⟨x.no.toNat,by omega⟩
    rw [ay];exact a' y (n+1) ai ai
  ·rw [if_neg aV];exact ⟨j,x,rfl,ab,aV⟩
end Go.Proofs.YtnafpeohfbglmaaGreat
namespace Go.Proofs.YtnafpeohfbglmaaGreat
open Go.bj Go.bY
theorem R7 (fv:ad) (Go:List ax→a6→Prop) (e6:a6→Prop) (fb:ad→a6→Prop) (dN:∀ x rem K,Go (x::rem) K→c2 Tryz.prog fv [x.cj] K (yv Go e6 fb rem)) :
  ∀ (n:Nat) (f:ax),f.size≤n→n<bt→∀ (rest:List ax) (K:a6),Go (lj f++rest) K→bu Tryz.prog 149 [f.cj,fv] K (yv Go e6 fb rest):=by
 have an:=bQ;intro n
 induction n with
 | zero=>intro x h;have:=x.size_eq;omega
 | succ n a'=>
  intro f aC kp rest K df;have ml:=f.size_eq;have kg:=ax.ui f.kids;rw [ED] at df;refine bu.bp ak call149 Tryz.func149 C C fun s I=>?_
  cases aI:f.du with
  | true=>
   rw [aI,if_pos C] at df;have al:=dN f rest K df;rw [ax.cO] at al ⊢;unfold ax.cells at al ⊢;have bW:f.op=2∨f.op=3∨f.op=4:=by unfold ax.du at aI;simp at aI;omega
   rcases bW with h|h|h
   all_goals
    rw [h] at al ⊢;refine bP ?_;refine aa.fO C C C C C C al I (au.all _) ?_ ?_
    ·rintro x aL (⟨⟨⟩,ao⟩|⟨⟨⟩,ar⟩|⟨_,⟨⟩,_⟩) I
     all_goals rw [List.append_nil] at I ⊢
     ·refine cC ?_
      exact Fin.bH I C aR (au.all _) (.inl ⟨rfl,ao⟩)
     ·refine cC ?_
      exact Fin.bH I C aR (au.all _) (.inr (.inl ⟨rfl,ar⟩))
    ·rintro x aL (⟨h,_⟩|⟨h,_⟩|⟨v,⟨⟩,aN⟩) I
     ·cases h
     ·cases h
     rw [List.append_nil] at I ⊢;exact Fin.eM I aR (au.all _) (.inr (.inr ⟨_,rfl,aN⟩))
  | false=>
   rw [aI,if_neg bn] at df;have bW:f.op≠2∧f.op≠3∧f.op≠4:=by unfold ax.du at aI;simp at aI;omega
   rw [ax.cO];unfold ax.cells;refine dF ?_;refine aa.dR 10 C dq ?_;refine d' ?_;refine aa.dR 15 C dq ?_;refine hv ?_;refine af.cond C (fun h=>by simp at h;omega) (fun _=>?_);refine lH ?_;refine af.cT [1,24,25] C I (σ:=Nat×a6) (fun q=>[(26,.int .i64 (q.1:Int))]) (fun q=>q.2) (fun q=>q.1≤f.kids.length∧Go (nN (f.kids.drop q.1)++rest) q.2) (fun q=>f.kids.length-q.1) (0,K) ⟨Nat.zero_le _,df⟩ (c3 C) (au.all _) ?_;rintro ⟨j,hN⟩ ⟨aS,df⟩ I
   try simp only at aS df I ⊢
   refine cL ?_;refine af.cond C (fun aG=>?_) (fun bk=>?_);rotate_left
   ·have bk:j=f.kids.length:=by simp at bk;omega
    rw [fC ai,nN,List.nil_append] at df;refine fJ ?_;exact Fin.bH I C aR (au.all _) (.inl ⟨rfl,df⟩)
   have aG:j<f.kids.length:=by simpa using aG
   obtain ⟨x,ab,ch⟩:=cD (f:=ax.cj) aG;have gW:=ax.jP (List.mem_of_getElem? ab);rw [drop_cons ab,nN,List.append_assoc] at df;have i1:=a' x ai ai _ hN df;rw [ax.cO] at i1 ch;unfold ax.cells at i1 ch;refine gP ?_;refine aa.b0 C C C C C i1 I (au.all _) ?_ ?_
   ·rintro y aL (⟨⟨⟩,ao⟩|⟨⟨⟩,ar⟩|⟨_,⟨⟩,_⟩) I
    all_goals rw [List.append_nil] at I ⊢
    ·refine bP ?_
     exact bX.mk (j+1,aL) I ⟨aG,ao⟩ c7 (au.all _) ux
    ·refine cC ?_
     exact Fin.bH I C aR (au.all _) (.inr (.inl ⟨rfl,ar⟩))
   ·rintro y aL (⟨h,_⟩|⟨h,_⟩|⟨v,⟨⟩,aN⟩) I
    ·cases h
    ·cases h
    rw [List.append_nil] at I ⊢;exact Fin.eM I aR (au.all _) (.inr (.inr ⟨_,rfl,aN⟩))
theorem R8 (f:ax) (ba:f.size<bt):vM Tryz.prog 148 [] [.bq f.cells 0] [] ax.cj (lj f):=by
 intro l Go e6 fb nx K br;have hw:=R7 (kr l) Go e6 fb (fun x rem K ao=>nx x rem K ao) f.size f (Nat.le_refl _) ba [] K (by rw [List.append_nil];exact br);rw [ax.cO] at hw;refine bu.bp ak call148 Tryz.func148 C C fun s I=>?_
 rw [List.nil_append] at I ⊢;unfold ax.cells at *;refine k3 ?_;refine aa.b0 C C C C C hw I (au.all _) ?_ ?_
 ·rintro x aL (⟨⟨⟩,h⟩|⟨⟨⟩,h⟩|⟨_,⟨⟩,_⟩) I
  all_goals rw [List.append_nil] at I ⊢
  ·refine hv ?_
   exact Fin.bH I C aR (au.all _) (.inl ⟨rfl,.inl h⟩)
  ·refine hv ?_
   exact Fin.bH I C aR (au.all _) (.inl ⟨rfl,.inr h⟩)
 ·rintro x aL (⟨h,_⟩|⟨h,_⟩|⟨v,⟨⟩,h⟩) I
  ·cases h
  ·cases h
  rw [List.append_nil] at I ⊢;exact Fin.eM I aR (au.all _) (.inr ⟨_,rfl,h⟩)
theorem R9 (f:ax):a7 Tryz.prog 101 [f.cj] (.func 148 [] [.bq f.cells 0]):=by
 have an:=bQ;refine a7.bp ak call101 Tryz.func101 C C fun s I=>?_
 rw [ax.cO];unfold ax.cells;refine nv ?_;exact bA I
end Go.Proofs.YtnafpeohfbglmaaGreat
namespace Go.bj
section
variable {P:Program} {Γ:cg} {N:Nat} {ops:Array Oper} {Q:b2→Env→aj→Prop} {env:Env} {s:aj} {l:List Oper} {o:Oper} {d:Nat} {L R:a6}
def EE (s:aj) (R:a6) (e:TypeId) (sz n:Nat) (xs:List ad) (r:ad) (ah:aj):Prop:=
 ∃ aT b' cs',r=dG aT n b'∧ah=aQ s ((.own aT,.box e cs')::R)∧Ok s ((.own aT,.box e cs')::R)∧cs'.length=b'*sz∧n≤b'∧cs'.take (n*sz)=xs
theorem JO (z:Array Value) (k:Nat):(Builtin.zeroCells z k).toList.length=k*z.size:=by
 rw [Array.length_toList];simp [Builtin.zeroCells]
theorem JP (aO:bL P Γ) {w:World} {p:bN} {S:aj} (b6:c0 w p S) {t bG e ty:TypeId} {it cp aB:bJ} {bV sz:Nat} {olds:List Value} {xs ys:List ad} {dh:bU} {base:Option Addr} {n cap:Nat} {o7:Value}
  (aK:Γ.get? t=some it) (bo:it.bz = .aA e) (cS:Γ.get? bG=some cp) (dp:∀ k,cp.bz ≠ .int k) (bF:Γ.get? e=some aB) (U:aB.size=sz) (dJ:Nat.beq aB.zero.cells.size aB.size=true)
  (az:bO w p olds xs) (aC:n*sz=xs.length) (qY:(Builtin.firstCells sz n (.slice base n cap)).run P w.drew = .ok olds.toArray w.drew) (ay:Rel w p o7 (.aA bV [.agg ys] dh)) (cY:bV=sz) (gN:ys.length=sz)
  (aG:cap<n+1) (an:(n+1)*aB.bytes≤140737488355328) (dY:n+1≤9223372036854775807) :
  ∃ aT b' cs' w',(Builtin.append_ #[t,bG] ty #[.slice base n cap,o7]).run P w = .ok (.slice (some ⟨aT,0,none⟩) (n+1) b') w'∧S aT=none∧cV w p w' p∧Kept S (S.set aT (.box e cs')) w p w' p∧c0 w' p (S.set aT (.box e cs')) ∧
   cs'.length=b'*sz∧n+1≤b'∧cs'.take ((n+1)*sz)=xs++ys:=by
 obtain ⟨info,d,g1,g2,g3,-⟩:=aO.parts aK;obtain ⟨ln,cM,dD,c1,dn,-⟩:=aO.parts cS;obtain ⟨iH,jq,cz,dj,ft,ej,kW,kX⟩:=aO.parts bF;have ar:d = .slice e:=by rw [bo] at g3;cases d<;>simp [dP] at g3;rw [g3]
 subst ar;have cb:∀ k,cM ≠ .int k:=fun k e'=>by subst e';exact dp k dn.symm
 obtain ⟨us,hs,nX,iI,i',q0,q1,q2⟩:=oV ay (.inr cY);subst cY;have rL:bO w p (flat us) ys:=by
  cases hs with
  | cons u _ tu _ hu uc=>
  cases uc;cases hu with
  | agg c _ aE=>simpa [flat,Value.cells] using aE
 have lu:=rL.length;have eU:=growslice_fits (need:=n+1) (old:=cap) (bytes:=aB.bytes) aG an;have cx:=xt (ty:=ty) w g2 c1 cb cz kX (base:=base) (sLen:=n) (sCap:=cap) (m:=1) (olds:=olds) (news:=flat us) (iI P)
  (by rw [ej,U];exact qY) (by rw [ej,U];exact i' P w.drew (fun _ _ _=>rfl)) aG ai (by rw [kW];exact eU)
 have l7:n+1≤grownCap w (n+1) cap e:=by simp [grownCap,Question.cut]
 have gC:olds.length=n*bV:=by rw [az.length,aC]
 have nd:=Nat.eq_of_beq_eq_true dJ;generalize qZ:(Builtin.zeroCells aB.zero.cells (grownCap w (n+1) cap e-(n+1))).toList=a1 at cx;have lv:a1.length=(grownCap w (n+1) cap e-(n+1))*bV:=by
  rw [← qZ,JO,nd,U]
 generalize grownCap w (n+1) cap e=G at cx l7 lv;have ud:=vo b6
 obtain ⟨aw,hle,aD,jM⟩:=pP ud (.cells (olds++flat us++a1).toArray e (0,0)) (.box e (xs++ys++a1.map fun _ => .any)) (fun w' hS av fa=>⟨_,hS,by
  refine bO.append (bO.append (fa _ _ (show bO w.drew p olds xs from az.mono jH)) (fa _ _ (rL.mono jH))) (bO.xU a1),fun o aN=>absurd (b6.lt _ _ aN) (by show ¬ w.heap.size<w.heap.size;omega)⟩)
 rw [show w.drew.heap.size=w.heap.size from rfl] at aw aD jM;have hm:(n+1)*bV=n*bV+bV:=Nat.succ_mul n bV;refine ⟨w.heap.size,G,xs++ys++a1.map (fun _=>ad.any),_,cx,aw,jH.trans hle,(ti (w:=w) (p:=p)).trans (jH (w:=w) (p:=p)).size aD,jM,?_,l7,?_⟩
 ·simp only [List.length_append,List.length_map,lv]
  rw [← aC,gN,← hm,← Nat.add_mul];congr 1;omega
 ·rw [List.take_append_of_le_length dq,List.take_of_length_le dq]
theorem aU.ow (aO:bL P Γ) (I:Ok s L) {t bG e:TypeId} {x y:Operand} {it cp aB:bJ} {dL bV sz:Nat} {ys:List ad} {dh:bU}
    (ag:o.op = .call { callee := .builtin .append,args := #[x,y],argTypes := #[t,bG] }) (aK:Γ.get? t=some it) (bo:it.bz = .aA e) (cS:Γ.get? bG=some cp) (dp:∀ k,cp.bz ≠ .int k)
    (bF:Γ.get? e=some aB) (U:aB.size=sz) (dJ:Nat.beq aB.zero.cells.size aB.size=true) (ab:aJ env x=some (.aA dL [] .nil)) (ay:aJ env y=some (.aA bV [.agg ys] dh)) (cY:bV=sz) (gN:ys.length=sz) (an:1*aB.bytes≤140737488355328)
    {X:ad→aj→Prop}:aU P N o env (aQ s L) (fun r ah=>EE s L e sz 1 ys r ah) X:=by
  refine aU.jo h6 fun ro B a w p aF=>?_
  have fw:=aF.aJ ab;have eV:=aF.aJ ay;have ei:=fun val w'=>sk (P:=P) (a:=a) (val:=val) (w:=w) (w':=w') ag
  generalize dQ:a.eval x=dr at fw ei;generalize eO:a.eval y=fp at eV ei;have rn:dr = .slice none 0 0:=by
    cases fw with
    | gU=>rfl
    | hE a _ _ h=>rcases h with h|h<;>cases h
    | aA g off n cap _ vs _ _ aC=>exact absurd C aC
  subst rn
  obtain ⟨aT,b',cs',w',eE,e9,fH,h2,kY,kZ,lI,lJ⟩:=JP (ty:=o.type) aO aF.wf (base:=none) (n:=0) (cap:=0) (olds:=[]) (xs:=[]) aK bo cS dp bF U dJ .nil bn (by
    have:=run_firstCells_none (P:=P) w.drew sz 0 0 0
    simpa using this) eV cY gN ai (by simpa using an) ai
  rw [Nat.zero_add] at eE lI lJ;exact ⟨_,w',_,p,_,ei _ _ eE,fH,h2,kY,⟨aT,b',cs',rfl,rfl,⟨e9,I⟩,kZ,lI,by simpa using lJ⟩,.gx _⟩
theorem aU.ox (aO:bL P Γ) (I:Ok s L) {t bG e:TypeId} {x y:Operand} {it cp aB:bJ} {b n cap bV sz:Nat} {cs ys:List ad} {dh:bU}
    (ag:o.op = .call { callee := .builtin .append,args := #[x,y],argTypes := #[t,bG] }) (aK:Γ.get? t=some it) (bo:it.bz = .aA e) (cS:Γ.get? bG=some cp) (dp:∀ k,cp.bz ≠ .int k)
    (bF:Γ.get? e=some aB) (U:aB.size=sz) (dJ:Nat.beq aB.zero.cells.size aB.size=true) (ab:aJ env x=some (dG b n cap)) (aw:aP L (.own b) (.box e cs) R) (cE:cs.length=cap*sz) (aC:n≤cap)
    (ay:aJ env y=some (.aA bV [.agg ys] dh)) (cY:bV=sz) (gN:ys.length=sz) (dB:ys.all eN=true) (an:(n+1)*aB.bytes≤140737488355328) (dY:n+1≤9223372036854775807)
    {X:ad→aj→Prop}:aU P N o env (aQ s L) (fun r ah=>EE s R e sz (n+1) (cs.take (n*sz)++ys) r ah) X:=by
  obtain ⟨b8,bZ,eF⟩:=aw.perm I;refine aU.jo h6 fun ro B a w p aF=>?_
  have fw:=aF.aJ ab;have eV:=aF.aJ ay;have ei:=fun val w'=>sk (P:=P) (a:=a) (val:=val) (w:=w) (w':=w') ag
  generalize dQ:a.eval x=dr at fw ei;generalize eO:a.eval y=fp at eV ei;cases fw;obtain ⟨vs,cr,cJ,dW⟩:=aF.wf.obj _ _ (aw.get I);have fa:vs.toList.length=cap*sz:=by rw [cJ.length,cE]
  have rv:n*sz≤cap*sz:=Nat.mul_le_mul_right _ aC;have hc:=cJ.take (n*sz);have q6:∀ w':World,(∀ j,w'.cell? ⟨b,j,none⟩=w.cell? ⟨b,j,none⟩)→(Builtin.firstCells sz n (.slice (some ⟨b,0,none⟩) n cap)).run P w' = .ok (vs.toList.take (n*sz)).toArray w':=by
    intro w' hS;refine run_firstCells_some (P:=P) w' sz n ⟨b,0,none⟩ n cap (vs.toList.take (n*sz)) (by rw [List.length_take,fa];omega) (fun j u hu=>?_);rw [j4,Nat.zero_add,hS,iz cr];rw [List.getElem?_take] at hu;split at hu
    · simpa using hu
    · cases hu
  by_cases aG:cap<n+1
  · obtain ⟨aT,b',cs',w',eE,e9,fH,h2,kY,kZ,lI,lJ⟩:=JP (ty:=o.type) aO aF.wf (base:=some ⟨b,0,none⟩) (n:=n) (cap:=cap) (olds:=vs.toList.take (n*sz)) (xs:=cs.take (n*sz)) aK bo cS dp bF U dJ hc vh
      (q6 w.drew fun _=>rfl) eV cY gN aG an dY
    have gH:aj.Sub ((aQ s R).set aT (.box e cs')) ((aQ s L).set aT (.box e cs')):=by
      refine Az (k := .own aT) ?_;rw [b8];exact vI (k := .own b) (aj.nf _) bZ
    have ao:aQ s R aT=none:=by
      have h:=e9;rw [b8] at h;exact (aj.r7 h).2
    exact ⟨_,w',_,p,_,ei _ _ eE,fH,h2.sub gH,kY.sub gH,⟨aT,b',cs',rfl,rfl,⟨ao,eF⟩,kZ,lI,lJ⟩,.gx _⟩
  · obtain ⟨info,d,g1,g2,g3,-⟩:=aO.parts aK
    obtain ⟨ln,cM,dD,c1,dn,-⟩:=aO.parts cS;obtain ⟨iH,jq,cz,dj,ft,ej,kW,kX⟩:=aO.parts bF;have ar:d = .slice e:=by rw [bo] at g3;cases d<;>simp [dP] at g3;rw [g3]
    subst ar;have cb:∀ k,cM ≠ .int k:=fun k e'=>by subst e';exact dp k dn.symm
    subst cY;obtain ⟨us,hs,nX,iI,i',q0,q1,q2⟩:=oV (sz':=bV) eV (.inr rfl);have rL:bO w p (flat us) ys:=by
      cases hs with
      | cons u _ tu _ hu uc=>
      cases uc;cases hu with
      | agg c _ aE=>simpa [flat,Value.cells] using aE
    have lu:=rL.length;have k5:∀ x∈flat us,x.oneCell'=true:=oT rL dB;have eh:vs.size=cap*bV:=by rw [← Array.length_toList];exact fa
    have hm:(n+1)*bV=n*bV+bV:=Nat.succ_mul n bV;have Xg:(n+1)*bV≤cap*bV:=Nat.mul_le_mul_right _ ai;have cx:=z6 (ty:=o.type) (P:=P) w g2 c1 cb cz b n cap vs cr (xv:=fp) (m:=1) (news:=flat us) (iI P) (by rw [ej,U];exact i' P w (fun _ _ _=>rfl)) k5 ai (by rw [ej,U,eh];omega);rw [ej,U] at cx;have gq:bO w p (vs.toList.take (n*bV)++flat us++vs.toList.drop (n*bV+(flat us).length)) (cs.take (n*bV)++ys++cs.drop (n*bV+(flat us).length)):=bO.append (bO.append hc rL) (cJ.drop _);have cX:(aQ s L) b=some (.box e cs):=aw.get I
    obtain ⟨dU,jd,je⟩:=tt aF.wf cX (vs':=(vs.toList.take (n*bV)++flat us++vs.toList.drop (n*bV+(flat us).length)).toArray) (cs':=cs.take (n*bV)++ys++cs.drop (n*bV+(flat us).length)) (fun xW bB=>by
      rw [cr] at bB;cases bB
      simp only [List.size_toArray,List.length_append,List.length_take,List.length_drop,fa]
      rw [eh];omega) (by simpa using gq) _ C
    obtain ⟨f1,f2⟩:=aw.put (.box e (cs.take (n*bV)++ys++cs.drop (n*bV+(flat us).length))) I;refine ⟨_,_,_,p,_,ei _ _ cx,dU,jd,je,⟨b,cap,cs.take (n*bV)++ys++cs.drop (n*bV+(flat us).length),rfl,f1,f2,?_,by omega,?_⟩,.gx _⟩
    · simp only [List.length_append,List.length_take,List.length_drop,cE];omega
    · have:(cs.take (n*bV)++ys).length=(n+1)*bV:=by rw [List.length_append,List.length_take,cE];omega
      rw [List.take_append_of_le_length ai,List.take_of_length_le ai]
theorem aa.ow (aO:bL P Γ) (I:Ok s L) {t bG e:TypeId} {x y:Operand} {it cp aB:bJ} {dL bV sz:Nat} {ys:List ad} {dh:bU} (ao:guardOf ops env o=some true) (ar:o.dst=some d) (aX:Nat.blt d N=true)
  (ag:o.op = .call { callee := .builtin .append,args := #[x,y],argTypes := #[t,bG] }) (aK:Γ.get? t=some it) (bo:it.bz = .aA e) (cS:Γ.get? bG=some cp) (dp:∀ k,cp.bz ≠ .int k)
  (bF:Γ.get? e=some aB) (U:aB.size=sz) (dJ:Nat.beq aB.zero.cells.size aB.size=true) (ab:aJ env x=some (.aA dL [] .nil)) (ay:aJ env y=some (.aA bV [.agg ys] dh)) (cY:bV=sz) (gN:ys.length=sz) (an:1*aB.bytes≤140737488355328)
  (h:∀ aT b' cs',cs'.length=b'*sz→1≤b'→cs'.take (1*sz)=ys→Ok s ((.own aT,.box e cs')::L)→aa P N ops l Q ((d,dG aT 1 b')::env) (aQ s ((.own aT,.box e cs')::L))):aa P N ops (o::l) Q env (aQ s L):=by
 refine aa.op ao ar aX (aU.ow aO I ag aK bo cS dp bF U dJ ab ay cY gN an (X:=fun _ _=>False)) ?_ (fun _ _ h=>h.elim);rintro r ah ⟨aT,b',cs',rfl,rfl,ae,al,bl,bD⟩;exact h aT b' cs' al bl bD ae
theorem aa.ox (aO:bL P Γ) (I:Ok s L) {t bG e:TypeId} {x y:Operand} {it cp aB:bJ} {b n cap bV sz:Nat} {cs ys:List ad} {dh:bU} (ao:guardOf ops env o=some true) (ar:o.dst=some d) (aX:Nat.blt d N=true)
  (ag:o.op = .call { callee := .builtin .append,args := #[x,y],argTypes := #[t,bG] }) (aK:Γ.get? t=some it) (bo:it.bz = .aA e) (cS:Γ.get? bG=some cp) (dp:∀ k,cp.bz ≠ .int k)
  (bF:Γ.get? e=some aB) (U:aB.size=sz) (dJ:Nat.beq aB.zero.cells.size aB.size=true) (ab:aJ env x=some (dG b n cap)) (aw:aP L (.own b) (.box e cs) R) (cE:cs.length=cap*sz) (aC:n≤cap)
  (ay:aJ env y=some (.aA bV [.agg ys] dh)) (cY:bV=sz) (gN:ys.length=sz) (dB:ys.all eN=true) (an:(n+1)*aB.bytes≤140737488355328) (dY:n+1≤9223372036854775807)
  (h:∀ aT b' cs',cs'.length=b'*sz→n+1≤b'→cs'.take ((n+1)*sz)=cs.take (n*sz)++ys→Ok s ((.own aT,.box e cs')::R)→aa P N ops l Q ((d,dG aT (n+1) b')::env) (aQ s ((.own aT,.box e cs')::R))):aa P N ops (o::l) Q env (aQ s L):=by
 refine aa.op ao ar aX (aU.ox aO I ag aK bo cS dp bF U dJ ab aw cE aC ay cY gN dB an dY (X:=fun _ _=>False)) ?_ (fun _ _ h=>h.elim);rintro r ah ⟨aT,b',cs',rfl,rfl,ae,al,bl,bD⟩;exact h aT b' cs' al bl bD ae
end
section
variable {J:aj→Prop} {P:Program} {Γ:cg} {N:Nat} {Q:b2→Env→aj→Prop} {env:Env} {s:aj} {l:List Oper} {o:Oper} {d m:Nat} {L R:a6}
theorem bm.ow (i:Nat) (aO:bL P Γ) (I:Ok s L) {t bG e:TypeId} {x y:Operand} {it cp aB:bJ} {dL bV sz:Nat} {ys:List ad} {dh:bU} (az:ed l.toArray m (idxs 0 l)=[i]) (aY:l.toArray[i]? = some o) (ar:o.dst=some d) (aX:Nat.blt d N=true)
  (ao:guardOf l.toArray (bc env (looks l.toArray o)) o=some true)
  (ag:o.op = .call { callee := .builtin .append,args := #[x,y],argTypes := #[t,bG] }) (aK:Γ.get? t=some it) (bo:it.bz = .aA e) (cS:Γ.get? bG=some cp) (dp:∀ k,cp.bz ≠ .int k)
  (bF:Γ.get? e=some aB) (U:aB.size=sz) (dJ:Nat.beq aB.zero.cells.size aB.size=true) (ab:aJ (bc env (looks l.toArray o)) x=some (.aA dL [] .nil)) (ay:aJ (bc env (looks l.toArray o)) y=some (.aA bV [.agg ys] dh)) (cY:bV=sz) (gN:ys.length=sz) (an:1*aB.bytes≤140737488355328)
  (aS:∀ aT b' cs',Ok s ((.own aT,.box e cs')::L)→cs'.length=b'*sz→J (aQ s ((.own aT,.box e cs')::L)))
  (h:∀ aT b' cs',cs'.length=b'*sz→1≤b'→cs'.take (1*sz)=ys→Ok s ((.own aT,.box e cs')::L)→bm J P Γ N l.toArray Q (bR (m|||2^i)) ((d,dG aT 1 b')::env) (aQ s ((.own aT,.box e cs')::L))):bm J P Γ N l.toArray Q (bR m) env (aQ s L):=by
 refine bm.one az aY ar aX ao (aU.ow aO I ag aK bo cS dp bF U dJ ab ay cY gN an (X:=fun _ _=>False)) ?_ ?_ (fun _ _ h=>h.elim)
 ·rintro r ah ⟨aT,b',cs',rfl,rfl,ae,al,bl,bD⟩
  exact .inl (aS aT b' cs' ae al)
 ·rintro r ah ⟨aT,b',cs',rfl,rfl,ae,al,bl,bD⟩
  exact h aT b' cs' al bl bD ae
theorem bm.ox (i:Nat) (aO:bL P Γ) (I:Ok s L) {t bG e:TypeId} {x y:Operand} {it cp aB:bJ} {b n cap bV sz:Nat} {cs ys:List ad} {dh:bU} (az:ed l.toArray m (idxs 0 l)=[i]) (aY:l.toArray[i]? = some o) (ar:o.dst=some d) (aX:Nat.blt d N=true)
  (ao:guardOf l.toArray (bc env (looks l.toArray o)) o=some true)
  (ag:o.op = .call { callee := .builtin .append,args := #[x,y],argTypes := #[t,bG] }) (aK:Γ.get? t=some it) (bo:it.bz = .aA e) (cS:Γ.get? bG=some cp) (dp:∀ k,cp.bz ≠ .int k)
  (bF:Γ.get? e=some aB) (U:aB.size=sz) (dJ:Nat.beq aB.zero.cells.size aB.size=true) (ab:aJ (bc env (looks l.toArray o)) x=some (dG b n cap)) (aw:aP L (.own b) (.box e cs) R) (cE:cs.length=cap*sz) (aC:n≤cap)
  (ay:aJ (bc env (looks l.toArray o)) y=some (.aA bV [.agg ys] dh)) (cY:bV=sz) (gN:ys.length=sz) (dB:ys.all eN=true) (an:(n+1)*aB.bytes≤140737488355328) (dY:n+1≤9223372036854775807)
  (aS:∀ aT b' cs',Ok s ((.own aT,.box e cs')::R)→cs'.length=b'*sz→J (aQ s ((.own aT,.box e cs')::R)))
  (h:∀ aT b' cs',cs'.length=b'*sz→n+1≤b'→cs'.take ((n+1)*sz)=cs.take (n*sz)++ys→Ok s ((.own aT,.box e cs')::R)→bm J P Γ N l.toArray Q (bR (m|||2^i)) ((d,dG aT (n+1) b')::env) (aQ s ((.own aT,.box e cs')::R))):bm J P Γ N l.toArray Q (bR m) env (aQ s L):=by
 refine bm.one az aY ar aX ao (aU.ox aO I ag aK bo cS dp bF U dJ ab aw cE aC ay cY gN dB an dY (X:=fun _ _=>False)) ?_ ?_ (fun _ _ h=>h.elim)
 ·rintro r ah ⟨aT,b',cs',rfl,rfl,ae,al,bl,bD⟩
  exact .inl (aS aT b' cs' ae al)
 ·rintro r ah ⟨aT,b',cs',rfl,rfl,ae,al,bl,bD⟩
  exact h aT b' cs' al bl bD ae
end
end Go.bj
namespace Go.bj
section
variable {P:Program} {Γ:cg} {N:Nat} {env:Env} {s:aj} {ops:Array Oper} {rest:List Oper} {Q:b2→Env→aj→Prop} {L R:a6}
theorem JQ:∀ (ys r:List ad),r4 ys.length (ys++r)=some ys
 | [],r=>by cases r<;>rfl
 | y::ys,r=>by rw [List.length_cons,List.cons_append,r4,JQ ys r]
theorem JR:∀ (a r:List ad),oQ a.length (a++r)=some r
 | [],r=>rfl
 | y::ys,r=>by rw [List.length_cons,List.cons_append,oQ];exact JR ys r
def EF (i:bJ):Bool:=match i.bz with
 | .struct _=>true
 | _=>false
theorem R' {i:bJ} {a ys z:List ad} (U:EF i=true) (aI:ys.length=i.size) {off:Nat} (aV:a.length=off):gI i (a++(ys++z)) off=some (.agg ys):=by
 unfold gI EF at *;subst aV;rw [JR];simp only;split at U
 ·rename_i h;rw [h];simp only;rw [← aI,JQ]
 ·cases U
theorem Bf {xss:List (List ad)} {sz:Nat} (b7:∀ c∈xss,c.length=sz):∀ {j:Nat} {ys:List ad},xss[j]? = some ys→∃ a z,xss.flatten=a++(ys++z)∧a.length=j*sz∧∀ ys',(xss.set j ys').flatten=a++(ys'++z):=by
 induction xss with
 | nil=>intro j ys h;cases h
 | cons x r a'=>
  intro j ys h;cases j with
  | zero=>
   simp at h;subst h;exact ⟨[],r.flatten,by simp,by simp,fun ys'=>by simp⟩
  | succ j=>
   obtain ⟨a,z,U,ae,al⟩:=a' (fun c aE=>b7 c (List.mem_cons_of_mem _ aE)) gn;refine ⟨x++a,z,by rw [List.flatten_cons,U,List.append_assoc],by rw [List.length_append,b7 x List.mem_cons_self,ae,Nat.succ_mul,Nat.add_comm],fun ys'=>?_⟩;rw [List.set_cons_succ,List.flatten_cons,al,List.append_assoc]
theorem Sa {xss:List (List ad)} {sz:Nat} (b7:∀ c∈xss,c.length=sz):xss.flatten.length=xss.length*sz:=by
 induction xss with
 | nil=>simp
 | cons x r a'=>rw [List.flatten_cons,List.length_append,b7 x List.mem_cons_self,a' (fun c aE=>b7 c (List.mem_cons_of_mem _ aE)),List.length_cons,Nat.succ_mul,Nat.add_comm]
theorem Bg {i:bJ} {cs:List ad} {xss:List (List ad)} {n j:Nat} {ys:List ad} (U:EF i=true) (b7:∀ c∈xss,c.length=i.size) (ab:cs.take (n*i.size)=xss.flatten) (aS:xss[j]? = some ys):gI i cs (j*i.size)=some (.agg ys):=by
 obtain ⟨a,z,ae,al,-⟩:=Bf b7 aS;have:cs=a++(ys++(z++cs.drop (n*i.size))):=by
  conv=>lhs;rw [← List.take_append_drop (n*i.size) cs,ab,ae]
  simp
 rw [this];exact R' U (b7 ys (List.mem_of_getElem? aS)) al
theorem EG:∀ (ys ys' a z:List ad),ys'.length=ys.length→eg a.length ys' (a++(ys++z))=a++(ys'++z)
  | [],[],a,z,_=>by simp [eg]
  | y::ys,Sb::ys',a,z,h=>by
    have:=EG ys ys' (a++[Sb]) z gn;rw [List.length_append,List.append_assoc,List.append_assoc] at this;rw [eg,List.set_append_right _ _ (Nat.le_refl _),Nat.sub_self];exact this
theorem JS {sz:Nat} {cs:List ad} {xss:List (List ad)} {n j:Nat} {ys ys':List ad} (b7:∀ c∈xss,c.length=sz) (ab:cs.take (n*sz)=xss.flatten) (aS:xss[j]? = some ys) (aI:ys'.length=sz) :
  (eg (j*sz) ys' cs).length=cs.length∧(eg (j*sz) ys' cs).take (n*sz)=(xss.set j ys').flatten:=by
 obtain ⟨a,z,ae,al,bl⟩:=Bf b7 aS;have gN:=b7 ys (List.mem_of_getElem? aS);have aE:cs=a++(ys++(z++cs.drop (n*sz))):=by
  conv=>lhs;rw [← List.take_append_drop (n*sz) cs,ab,ae]
  simp
 have hlen:(xss.flatten).length≤n*sz:=by rw [← ab,List.length_take];omega
 have bD:eg (j*sz) ys' cs=a++(ys'++(z++cs.drop (n*sz))):=by
  conv=>lhs;rw [aE,← al]
  exact EG ys ys' a _ ai
 refine ⟨by rw [bD];(conv=>rhs;rw [aE]);simp;omega,?_⟩;rw [bD,bl];by_cases ar:cs.length≤n*sz
 ·rw [List.drop_eq_nil_of_le ar,List.append_nil,List.take_of_length_le]
  have:(a++(ys'++z)).length=(a++(ys++z)).length:=by simp;omega
  rw [this,← ae];exact hlen
 ·have fG:(xss.flatten).length=n*sz:=by rw [← ab,List.length_take];omega
  have hF:(a++(ys'++z)).length=n*sz:=by rw [← fG,ae];simp;omega
  rw [show a++(ys'++(z++cs.drop (n*sz)))=(a++(ys'++z))++cs.drop (n*sz) by simp,List.take_append_of_le_length ai,List.take_of_length_le ai]
theorem c9.yP {B:ff} {ro:Option Nat} {a:Act} {w:World} {p:bN} (h:c9 N B ro env s a w p) {kb b n cap sz i:Nat} {T uK:TypeId} {cells cs:List ad} {xss:List (List ad)} (cB:kb≠b) (iU:s kb=some (.box T cells)) (aE:cells[i]? = some (dG b n cap)) (aw:s b=some (.box uK cs)) (ab:cs.take (n*sz)=xss.flatten) (jI:xss.length=n)
  (b7:∀ c∈xss,c.length=sz) (aC:n≤cap) (hm:n≤9223372036854775807):∃ bb,c9 N B ro env ((s.del b).set kb (.box T (cells.set i (.aA sz (xss.map ad.agg) .bd)))) a w bb∧cV w p w bb∧Kept s ((s.del b).set kb (.box T (cells.set i (.aA sz (xss.map ad.agg) .bd)))) w p w bb:=by
 obtain ⟨vs,U,ae,al⟩:=h.wf.obj _ _ aw;have aG:b<w.heap.size:=(Array.getElem?_eq_some_iff.1 U).1;have hle:cV w p w (p.dA b True):=⟨rfl,rfl,rfl,Nat.le_refl _,fun _ _ h => .inl h,fun _ _ _=>rfl,fun _ _ h=>h⟩;have dy:∀ v,Rel w p v (dG b n cap)→Rel w (p.dA b True) v (.aA sz (xss.map ad.agg) .bd):=by
  intro v az;cases az;have hc:=ae.take (n*sz);rw [ab] at hc;obtain ⟨us,b8,bZ,eF⟩:=DB hc b7;refine .aA b 0 n cap sz us (xss.map ad.agg) .bd bn (by rw [List.length_map,jI]) ?_ (b8.mono hle) eF hm aC (fun h=>by cases h) (fun b h=>by cases h);rw [bZ];intro i v aY;refine ⟨.inr ⟨rfl,trivial⟩,?_⟩;rw [Nat.zero_add,iz U];rw [List.getElem?_take] at aY;split at aY
  ·simpa using aY
  ·cases aY
 have aD:Kept s ((s.del b).set kb (.box T (cells.set i (.aA sz (xss.map ad.agg) .bd)))) w p w (p.dA b True):=⟨fun _ _ _=>rfl,fun aT an gZ=>by
  have bl:aT≠kb:=fun e=>by subst e;rw [iU] at gZ;cases gZ
  rw [aj.e5 _ _ bl]
  by_cases e:aT=b
  ·subst e;exact aj.l5 _ _
  ·rw [aj.lp _ e];exact gZ,fun aT o an gZ aN=>by
   rcases aN with aN|⟨rfl,_⟩
   ·exact aN
   ·rw [aw] at gZ;cases gZ⟩
 have b6:c0 w (p.dA b True) ((s.del b).set kb (.box T (cells.set i (.aA sz (xss.map ad.agg) .bd)))):=by
  refine ⟨fun aT o an=>?_,fun aT o aN=>by rcases aN with aN|⟨rfl,_⟩;exact h.wf.lt _ _ aN;exact aG⟩;have eZ:aT≠b→∀ o,p.dA b True aT o↔p aT o:=fun e o=>⟨fun aN=>by rcases aN with aN|⟨e',_⟩;exact aN;exact absurd e' e,.inl⟩
  by_cases h0:aT=kb
  ·subst h0
   rw [aj.fu] at an;cases an;obtain ⟨us,g1,g2,g3⟩:=h.wf.obj _ _ iU;obtain ⟨v,q3,nY⟩:=g2.get aE;have bD:=(g2.mono hle).set i (dy v nY);have fG:us.toList.set i v=us.toList:=by
    apply List.ext_getElem?;intro k;rw [List.getElem?_set];split
    ·rename_i e;subst e
     split
     ·rw [q3]
     ·rename_i aG;rw [List.getElem?_eq_none ai]
    ·rfl
   rw [fG] at bD;exact ⟨us,g1,bD,fun o aN=>g3 o ((eZ cB o).1 aN)⟩
  rw [aj.e5 _ _ h0] at an;by_cases e:aT=b
  ·subst e;rw [aj.l5] at an;cases an
  ·rw [aj.lp _ e] at an
   have ag:=h.wf.obj aT o an;have eZ:=eZ e;cases o with
   | box t c=>obtain ⟨us,g1,g2,g3⟩:=ag;exact ⟨us,g1,g2.mono hle,fun o aN=>g3 o ((eZ o).1 aN)⟩
   | row t sz n=>obtain ⟨cur,g1,g2,g3,g4⟩:=ag;exact ⟨cur,g1,g2,g3,fun o=>(eZ o).trans (g4 o)⟩
   | map es=>obtain ⟨cw,c,g1,g2,g3⟩:=ag;exact ⟨cw,c,g1,⟨g2.1.mono hle,g2.2.mono hle⟩,g3⟩
   | j2 es it l c=>exact ag.oO hle C C
   | tick m=>exact ag
   | loop r env=>exact ⟨ag.1,fun t v h=>(ag.2 t v h).mono hle⟩
 exact ⟨_,h.step hle aD b6,hle,aD⟩
theorem af.yP {c:Code} (I:Ok s L) {kb b n cap sz:Nat} (i:Nat) {T uK:TypeId} {cells cs:List ad} {xss:List (List ad)} {c4:a6} (U:aP L (.own kb) (.box T cells) R) (ae:aP R (.own b) (.box uK cs) c4) (aE:cells[i]? = some (dG b n cap)) (ab:cs.take (n*sz)=xss.flatten) (jI:xss.length=n) (b7:∀ c∈xss,c.length=sz) (aC:n≤cap) (hm:n≤9223372036854775807)
  (h:Ok s ((.own kb,.box T (cells.set i (.aA sz (xss.map ad.agg) .bd)))::c4)→af P N c Q env (aQ s ((.own kb,.box T (cells.set i (.aA sz (xss.map ad.agg) .bd)))::c4))):af P N c Q env (aQ s L):=by
 obtain ⟨g1,g2,g3,g4,g5⟩:=Jx (o'' := .box T (cells.set i (.aA sz (xss.map ad.agg) .bd))) I U ae;intro rp B a w p et aF;obtain ⟨bb,al,bl,bD⟩:=aF.yP g1 g2 aE g3 ab jI b7 aC hm;rw [g4] at al bD;exact kR (h g5 rp B a w bb et al) fun _ _ _ q=>q.after bl bD
end
end Go.bj
namespace Go.Proofs.YtnafpeohfbglmaaGreat
open Go.bj Go.bY
abbrev wC:=Option (Nat×Nat×List ad)
def pw:wC→List ax→ad
 | none,_ => .aA 0 [] .nil
 | some (g,cap,_),l=>dG g l.length cap
def oy:wC→a6
 | none=>[]
 | some (g,_,cs)=>[(.own g,.box 58 cs)]
def EH:wC→List ax→Prop
 | none,l=>l=[]
 | some (_,cap,cs),l=>cs.length=cap*6∧l.length≤cap∧cs.take (l.length*6)=(l.map ax.cells).flatten
theorem EI (l:List ax):∀ c∈l.map ax.cells,c.length=6:=fun c aE=>by obtain ⟨x,-,rfl⟩:=List.mem_map.1 aE;rfl
def mY (cm:Nat) (f:ax):bU×db:=(.own cm,.box 58 f.cells)
theorem Sc (cm:Nat) (x f:ax) (ab:x.path.length<bt) (ba:f.path.length<bt):c2 Tryz.prog (.func 103 [] [.ptr cm 0]) [x.cj] [mY cm f] (fun o K=>o = .ret (.bool (fW x f))∧K=[mY cm f]):=by
 have U:=IM x f ab ba;have U:a7 Tryz.prog 104 [x.cj,f.cj] (.bool (fW x f)):=U;refine c2.eP (first:=[]) (cap:=[.ptr cm 0]) ?_;refine bu.bp ak call103 Tryz.func103 C C fun s I=>?_
 unfold mY at I ⊢;rw [ax.cO,ax.cO] at U;rw [ax.cO];unfold ax.cells at *;refine gu I ?_;intro I;exact Fin.bH I C aR (au.all _) ⟨rfl,rfl⟩
theorem Sd (g cap:Nat) (cs:List ad) (l:List ax) (aI:l.length<bt) (U:cs.length=cap*6) (ae:l.length≤cap) (al:cs.take (l.length*6)=(l.map ax.cells).flatten) (cm:Nat) (f:ax) (ba:f.path.length<bt) (aN:∀ x∈l,x.path.length<bt) :
  bu Tryz.prog 150 [dG g l.length cap,.func 103 [] [.ptr cm 0]] [(.own g,.box 58 cs),mY cm f]
   (fun o K=>o = .ret (.int .i64 (match l.findIdx? (fun x=>fW x f) with
    | some i=>(i:Int)
    | none => -1))∧K=[(.own g,.box 58 cs),mY cm f]):=by
 have an:=bQ;refine bu.bp ak call150 Tryz.func150 C C fun s I=>?_
 unfold mY at I ⊢;refine dF ?_;refine aa.sm ak C C C C C C C ?_;refine fA ?_;refine af.cT [0,1,7] C I (σ:=Nat) (fun j=>[(8,.int .i64 (j:Int))]) (fun _=>[(.own g,.box 58 cs),mY cm f]) (fun j=>j≤l.length∧∀ i x,i<j→l[i]? = some x→fW x f=false) (fun j=>l.length-j) 0 ⟨Nat.zero_le _,fun i x aY=>absurd aY (Nat.not_lt_zero _)⟩ (c3 C) (au.all _) ?_;rintro j ⟨aS,aH⟩ I;unfold mY at I ⊢;refine cL ?_;refine af.cond C (fun aG=>?_) (fun bk=>?_);rotate_left
 ·have bk:j=l.length:=by simp at bk;omega
  have ab:l.findIdx? (fun x=>fW x f)=none:=by
   rw [List.findIdx?_eq_none_iff];intro z bE;obtain ⟨i,aY⟩:=List.getElem?_of_mem bE;have U:=sq aY;exact aH i z ai aY
  rw [ab];refine fJ ?_;exact Fin.bH I C aR (au.all _) ⟨rfl,rfl⟩
 have aG:j<l.length:=by simpa using aG
 obtain ⟨y,ay⟩:∃ y,l[j]? = some y:=⟨_,List.getElem?_eq_getElem aG⟩;have h7:=Sc cm y f (aN y (List.mem_of_getElem? ay)) ba;rw [ax.cO] at h7;unfold mY at h7;refine bP ?_;refine aa.e7 ak j C C C C C C C C C C aG ?_;refine aa.dS ak I C C C C C C .here (Bg C (EI l) al (by rw [List.getElem?_map,ay];rfl)) ?_;skip;refine aa.fO rfl rfl rfl rfl rfl rfl h7 I bM ?_ (fun _ _ ⟨h,_⟩ _=>by cases h);rintro _ _ ⟨⟨⟩,rfl⟩ I;rw [List.cons_append,List.nil_append] at I ⊢;cases aC:fW y f with
 | true=>
  have ab:l.findIdx? (fun x=>fW x f)=some j:=by
   rw [List.findIdx?_eq_some_iff_getElem];refine ⟨aG,by rw [(List.getElem?_eq_some_iff.1 ay).2];exact aC,fun i aY=>?_⟩;have:=aH i l[i] aY (List.getElem?_eq_getElem ai);simpa using this
  rw [ab];refine cC ?_;exact Fin.bH I C aR (.cons (.there .here) (.cons .here .nil)) ⟨rfl,rfl⟩
 | false=>
  refine bP ?_;refine bX.mk (j+1) I ⟨aG,fun i x aY ab=>?_⟩ c7 (.cons (.there .here) (.cons .here .nil)) uH;rcases Nat.lt_succ_iff_lt_or_eq.1 aY with aY|rfl
  ·exact aH i x aY ab
  ·rw [ay] at ab;cases ab;exact aC
theorem Se {α:Type} (q:α→Bool) (l:List α):(decide ((match l.findIdx? q with
  | some i=>(i:Int)
  | none => -1)≥0))=l.any q:=by
 cases h:l.findIdx? q with
 | none=>
  rw [List.findIdx?_eq_none_iff] at h;have:l.any q=false:=by rw [List.any_eq_false];intro x ab;rw [h x ab];simp
  rw [this];rfl
 | some i=>
  rw [List.findIdx?_eq_some_iff_getElem] at h;obtain ⟨U,ae,-⟩:=h;have:l.any q=true:=List.any_eq_true.2 ⟨_,List.getElem_mem U,ae⟩;rw [this];simp
theorem Sf (bw:wC) (l:List ax) (aI:l.length<bt) (aw:EH bw l) (cm:Nat) (f:ax) (ba:f.path.length<bt) (aN:∀ x∈l,x.path.length<bt) :
  bu Tryz.prog 102 [pw bw l,.func 103 [] [.ptr cm 0]] (oy bw++[mY cm f]) (fun o K=>o = .ret (.bool (l.any fun x=>fW x f))∧K=oy bw++[mY cm f]):=by
 cases bw with
 | none=>
  have:l=[]:=aw;subst this;have h:=DJ (.func 103 [] [.ptr cm 0]) [] (fun _=>[mY cm f]) (fun _=>false) dd (fun j x h=>by cases h);refine bu.mono (bu.args (show cA [.aA 0 [] .nil,.func 103 [] [.ptr cm 0]] [.aA 6 ([].map ax.cj) .bd,.func 103 [] [.ptr cm 0]] from .cons a8.empty (.one aR)) h) ?_;rintro o K (⟨rfl,rfl,-⟩|⟨j,h,-⟩)
  ·exact ⟨rfl,rfl⟩
  ·exact absurd h (Nat.not_lt_zero _)
 | some q=>
  obtain ⟨g,cap,cs⟩:=q;obtain ⟨U,ae,al⟩:=aw;rw [← Se];have h:=Sd g cap cs l aI U ae al cm f ba aN;show bu Tryz.prog 102 [dG g l.length cap,.func 103 [] [.ptr cm 0]] [(.own g,.box 58 cs),mY cm f] _;refine bu.bp ak call102 Tryz.func102 C C fun s I=>?_
  refine dF ?_;refine aa.b0 rfl rfl rfl rfl rfl h I (au.all _) ?_ (fun _ _ ⟨h,_⟩ _=>by cases h);rintro _ _ ⟨⟨⟩,rfl⟩ I;rw [List.append_nil] at I ⊢;refine dO ?_;exact Fin.bH I C aR (au.all _) ⟨rfl,rfl⟩
end Go.Proofs.YtnafpeohfbglmaaGreat
namespace Go.bY
open Go.Proofs.YtnafpeohfbglmaaGreat
theorem Bh (i:Nat):∀ vs:List Nat,(fE i vs).length+(fF i vs).length=vs.length
  | []=>rfl
  | v::r=>by
    have:=Bh i r;unfold fE fF at *;cases h:v.testBit i<;>simp [List.filter_cons,h]<;>omega
theorem Bi {i:Nat} {vs:List Nat} (h:((fE i vs).isEmpty||(fF i vs).isEmpty)=false):(fE i vs).length<vs.length∧(fF i vs).length<vs.length:=by
 have:=Bh i vs;rw [Bool.or_eq_false_iff] at h;have U:(fE i vs).length≠0:=by intro aC;rw [List.isEmpty_iff_length_eq_zero.2 aC] at h;simp at h
 have ae:(fF i vs).length≠0:=by intro aC;rw [List.isEmpty_iff_length_eq_zero.2 aC] at h;simp at h
 omega
theorem Sg {g g':List Nat→ca} {vs:List Nat} (h:∀ l:List Nat,l.length<vs.length→g l=g' l) (out:Option ca) (i:Nat):kN g vs out i=kN g' vs out i:=by
 unfold kN;cases he:(fE i vs).isEmpty||(fF i vs).isEmpty with
 | true=>rfl
 | false=>
  have:=Bi he;rw [if_neg bn,if_neg bn,h _ this.1,h _ this.2]
theorem EJ {g g':List Nat→ca} {vs:List Nat} (h:∀ l:List Nat,l.length<vs.length→g l=g' l):∀ (is:List Nat) (out:Option ca),is.foldl (kN g vs) out=is.foldl (kN g' vs) out
 | [],_=>rfl
 | i::r,out=>by rw [List.foldl_cons,List.foldl_cons,Sg h,EJ h r]
theorem EK (A:Nat) (h:Nat→List Int):∀ (f lE:Nat) (vs:List Nat),vs.length≤f→vs.length≤lE→lS A h f vs=lS A h lE vs
  | 0,lE,vs,U,_=>by
    have:vs=[]:=List.length_eq_zero_iff.1 ai;subst this;cases lE with
    | zero=>rfl
    | succ lE=>rw [lS,lS,pv,if_pos C]
  | f+1,0,vs,_,ae=>by
    have:vs=[]:=List.length_eq_zero_iff.1 ai;subst this;rw [lS,lS,pv,if_pos C]
  | f+1,lE+1,vs,U,ae=>by
    rw [lS,lS,EJ (g:=lS A h f) (g':=lS A h lE) (fun l aI=>EK A h f lE l ai ai)]
def fQ (A:Nat) (h:Nat→List Int) (vs:List Nat):ca:=lS A h vs.length vs
theorem EL (A:Nat) (h:Nat→List Int) (vs:List Nat):fQ A h vs=if pv h vs then .leaf (firstM h vs) else ((List.range A).foldl (kN (fQ A h) vs) none).getD (.leaf []):=by
 have e:fQ A h vs=lS A h (vs.length+1) vs:=EK A h _ _ vs (Nat.le_refl _) (Nat.le_succ _);rw [e,lS,EJ (g:=lS A h vs.length) (g':=fQ A h) (fun l aI=>EK A h _ _ l ai (Nat.le_refl _))]
theorem JT (p:b9) (gen:Int):sP p gen=fQ (cI p gen).length (dw p gen (cI p gen)) (hO (cu p) (cI p gen)):=rfl
theorem ca.px:∀ t:ca,1≤t.leaves
 | .leaf _=>Nat.le_refl 1
 | .test _ a b=>by have:=a.px;have:=b.px;rw [ca.leaves];omega
theorem ca.Bj:∀ t:ca,t.iD<t.leaves
  | .leaf _=>Nat.one_pos
  | .test _ a b=>by
    have:=a.Bj;have:=b.Bj;have:=a.px;have:=b.px;rw [ca.iD,ca.leaves];omega
theorem Sh {Pr:ca→Prop} {out:Option ca} {t:ca} (U:∀ o,out=some o→Pr o) (ae:Pr t):∀ o,uT out t=some o→Pr o:=by
 intro o h;unfold uT at h;cases out with
 | none=>cases h;exact ae
 | some x=>
  simp only at h;split at h
  ·cases h;exact ae
  ·cases h;exact U _ C
theorem Si {Pr:ca→Prop} {g:List Nat→ca} {vs:List Nat} {out:Option ca} {i:Nat} (U:∀ o,out=some o→Pr o) (ae:((fE i vs).isEmpty||(fF i vs).isEmpty)=false→Pr (.test i (g (fF i vs)) (g (fE i vs)))):∀ o,kN g vs out i=some o→Pr o:=by
 unfold kN;cases he:(fE i vs).isEmpty||(fF i vs).isEmpty with
 | true=>rw [if_pos C];exact U
 | false=>rw [if_neg bn];exact Sh U (ae he)
theorem JU {Pr:ca→Prop} {g:List Nat→ca} {vs:List Nat}:∀ (is:List Nat) (out:Option ca),(∀ o,out=some o→Pr o)→(∀ i∈is,((fE i vs).isEmpty||(fF i vs).isEmpty)=false→Pr (.test i (g (fF i vs)) (g (fE i vs))))→∀ o,is.foldl (kN g vs) out=some o→Pr o
  | [],_,U,_=>U
  | i::r,out,U,ae=>by
    rw [List.foldl_cons];exact JU r _ (Si U (ae i List.mem_cons_self)) (fun j aS=>ae j (List.mem_cons_of_mem _ aS))
theorem JV {Pr:ca→Prop} {g:List Nat→ca} {vs:List Nat} {is:List Nat} {out:Option ca} {d:ca} (ar:Pr d) (U:∀ o,out=some o→Pr o) (ae:∀ i∈is,((fE i vs).isEmpty||(fF i vs).isEmpty)=false→Pr (.test i (g (fF i vs)) (g (fE i vs)))):Pr ((is.foldl (kN g vs) out).getD d):=by
 cases h:is.foldl (kN g vs) out with
 | none=>exact ar
 | some o=>exact JU is out U ae o h
theorem wD (A:Nat) (h:Nat→List Int):∀ (n:Nat) (vs:List Nat),vs.length≤n→(fQ A h vs).leaves≤max 1 vs.length
  | n,vs,aC=>by
    rw [EL];split
    · rw [ca.leaves];omega
    · refine JV (Pr:=fun t=>t.leaves≤max 1 vs.length) (by rw [ca.leaves];omega) (fun _ h=>by cases h) (fun i _ he=>?_)
      have aI:=Bi he;have ay:=Bh i vs;cases n with
      | zero=>omega
      | succ n=>
        have U:=wD A h n (fF i vs) ai;have ae:=wD A h n (fE i vs) ai;rw [ca.leaves];omega
theorem Sj (out:Option ca) (t:ca):∃ o,uT out t=some o:=by
 unfold uT;cases out with
 | none=>exact ⟨_,rfl⟩
 | some o=>simp only;split<;>exact ⟨_,rfl⟩
theorem JW {g:List Nat→ca} {vs:List Nat}:∀ (is:List Nat) (out:Option ca),(out≠none∨∃ i∈is,((fE i vs).isEmpty||(fF i vs).isEmpty)=false)→∃ o,is.foldl (kN g vs) out=some o
  | [],out,h=>by
    rcases h with h|⟨i,aY,_⟩
    · cases out with
      | none=>exact absurd C h
      | some o=>exact ⟨o,rfl⟩
    · cases aY
  | i::r,out,h=>by
    rw [List.foldl_cons];refine JW r _ ?_;unfold kN;cases he:(fE i vs).isEmpty||(fF i vs).isEmpty with
    | true=>
      rw [if_pos C];rcases h with h|⟨j,aS,h⟩
      · exact .inl h
      · rcases List.mem_cons.1 aS with rfl|aS
        · rw [he] at h;cases h
        · exact .inr ⟨j,aS,h⟩
    | false=>
      rw [if_neg bn];obtain ⟨o,ag⟩:=Sj out (.test i (g (fF i vs)) (g (fE i vs)));exact .inl (by rw [ag];simp)
theorem Bk {α:Type} {l:List α} {x:α} (h:x∈l):l.isEmpty=false:=by cases l with|nil=>cases h|cons=>rfl
theorem Sk {A u v:Nat} {vs:List Nat} (hu:u∈vs) (av:v∈vs) (U:u<2^A) (ae:v<2^A) (cB:u≠v):∃ i∈List.range A,((fE i vs).isEmpty||(fF i vs).isEmpty)=false:=by
 have hex:∃ i,u.testBit i≠v.testBit i:=Classical.byContradiction fun aC=>cB (Nat.eq_of_testBit_eq fun i=>Classical.byContradiction fun h=>aC ⟨i,h⟩)
 obtain ⟨i,aY⟩:=hex
 have Sl:i<A:=Nat.lt_of_not_le fun bk=>aY (by
  rw [Nat.testBit_lt_two_pow (Nat.lt_of_lt_of_le U (Nat.pow_le_pow_right ai bk)),Nat.testBit_lt_two_pow (Nat.lt_of_lt_of_le ae (Nat.pow_le_pow_right ai bk))])
 refine ⟨i,List.mem_range.2 Sl,?_⟩;rw [Bool.or_eq_false_iff];cases an:u.testBit i with
 | true=>
  have lC:v.testBit i=false:=by cases h:v.testBit i with|false=>rfl|true=>exact absurd (an.trans h.symm) aY
  exact ⟨Bk (List.mem_filter.2 ⟨hu,an⟩),Bk (List.mem_filter.2 ⟨av,by rw [lC];rfl⟩)⟩
 | false=>
  have lC:v.testBit i=true:=by cases h:v.testBit i with|true=>rfl|false=>exact absurd (an.trans h.symm) aY
  exact ⟨Bk (List.mem_filter.2 ⟨av,lC⟩),Bk (List.mem_filter.2 ⟨hu,by rw [an];rfl⟩)⟩
theorem Sm {h:Nat→List Int}:∀ {vs:List Nat},pv h vs=false→∃ u∈vs,∃ v∈vs,u≠v
  | v::r,ba=>by
    rw [pv] at ba;have:=List.all_eq_false.1 ba;obtain ⟨u,hu,cB⟩:=this;exact ⟨u,List.mem_cons_of_mem _ hu,v,List.mem_cons_self,by rintro rfl;simp at cB⟩
theorem Sn {A:Nat} {h:Nat→List Int} {vs:List Nat} (vG:∀ v∈vs,v<2^A) (ba:pv h vs=false) (g:List Nat→ca):∃ o,(List.range A).foldl (kN g vs) none=some o:=by
 obtain ⟨u,hu,v,av,cB⟩:=Sm ba;exact JW _ _ (.inr (Sk hu av (vG u hu) (vG v av) cB))
end Go.bY
namespace Go.bj
section
variable {P:Program} {Γ:cg} {N:Nat} {env:Env} {s:aj} {ops:Array Oper} {rest:List Oper} {Q:b2→Env→aj→Prop} {L R:a6}
theorem c9.py {B:ff} {ro:Option Nat} {a:Act} {w:World} {p:bN} (h:c9 N B ro env s a w p) {kb:Nat} {T:TypeId} {cells qp:List ad} (iU:s kb=some (.box T cells)) (hle:cA cells qp) :
  c9 N B ro env (s.set kb (.box T qp)) a w p∧Kept s (s.set kb (.box T qp)) w p w p:=by
 have aD:Kept s (s.set kb (.box T qp)) w p w p:=⟨fun _ _ _=>rfl,fun aT an gZ=>by
  have bl:aT≠kb:=fun e=>by subst e;rw [iU] at gZ;cases gZ
  rw [aj.e5 _ _ bl];exact gZ,fun aT o an gZ aN=>aN⟩
 have b6:c0 w p (s.set kb (.box T qp)):=by
  refine ⟨fun aT o an=>?_,h.wf.lt⟩;by_cases h0:aT=kb
  ·subst h0
   rw [aj.fu] at an;cases an;obtain ⟨us,g1,g2,g3⟩:=h.wf.obj _ _ iU;exact ⟨us,g1,hle.rel g2,g3⟩
  ·rw [aj.e5 _ _ h0] at an
   exact h.wf.obj aT o an
 exact ⟨h.step (.refl w p) aD b6,aD⟩
theorem af.py {c:Code} (I:Ok s L) {kb:Nat} {T:TypeId} {cells:List ad} (qp:List ad) (U:aP L (.own kb) (.box T cells) R) (hle:cA cells qp)
  (h:Ok s ((.own kb,.box T qp)::R)→af P N c Q env (aQ s ((.own kb,.box T qp)::R))):af P N c Q env (aQ s L):=by
 obtain ⟨g1,g2⟩:=U.put (.box T qp) I;intro rp B a w p et aF;obtain ⟨al,bD⟩:=aF.py (U.get I) hle;rw [g1] at al bD;exact kR (h g2 rp B a w p et al) fun _ _ _ q=>q.after (.refl w p) bD
end
end Go.bj
namespace Go.bj
section
variable {P:Program} {Γ:cg} {N:Nat} {ops:Array Oper} {Q:b2→Env→aj→Prop} {env:Env} {s:aj} {l:List Oper} {o:Oper} {d:Nat}
theorem aU.Bl (aO:bL P Γ) {t e:TypeId} {v:Value} {it aB:bJ} {x:ad} (ag:o.op = .buildSlice t 1 #[(0,.const v)]) (aK:Γ.get? t=some it) (bo:it.bz = .aA e) (he:Γ.get? e=some aB) (zU:Nat.ble (1*aB.size) 16777216=true) (aE:gy v=some x) (b7:Nat.beq v.cells.size aB.size=true) :
  aU P N o env s (fun r ah=>r = .aA aB.size [x] .clip∧ah=s) (fun _ _=>False):=by
 refine aU.l2 h6 fun ro B a w p aF=>?_
 obtain ⟨info,d,U,ae,al,-⟩:=aO.parts aK;obtain ⟨ln,cM,nb,nc,tn,l1,GD,zT⟩:=aO.parts he;have ar:d = .slice e:=by rw [bo] at al;cases d<;>simp [dP] at al;rw [al]
 subst ar;have aw:=Nat.eq_of_beq_eq_true b7;have hm:=Nat.le_of_ble_eq_true zU;have bZ:bO w p [v] [x] := .cons _ _ _ _ (oR aE) .nil;have eF:∀ u∈[v],u.cells.size=aB.size:=fun u hu=>by rw [List.mem_singleton.1 hu];exact aw
 have jm:(flat [v]).length=1*aB.size:=by simp [flat,aw]
 have qT:∀ qU:Array Value,qU.size=1*aB.size→Instr.fill (fun i=>some (i*aB.size,aB.size)) qU ((#[(0,Operand.const v)]:Array (Nat×Operand)).map fun x=>(x.1,a.eval x.2)).toList=some (flat [v]).toArray:=by
  intro qU nd;have:=Gy aB.size [v] 0 [] qU.toList bn (by rw [Array.length_toList,nd];rfl) eF;simp only [List.nil_append] at this;simpa [Act.eval] using this
 refine fT.alloc (flat [v]).toArray e aF.wf.lt (val := .slice (some ⟨w.heap.size,0,none⟩) 1 1) ?_ ?_
 ·unfold execOp
  rw [ag];refine fU ?_;have qV:¬ (1*aB.size>2^24):=by omega
  unfold Instr.buildSlice;simp only [Sem.run_bind,run_underlying ae,Result.andThen_ok,sizeOf,typeInfo,run_program,nb,Sem.run_pure,l1,if_neg qV];by_cases bB:1*aB.size=0
  ·rw [if_pos bB,Sem.run_bind,Sem.run_pure,Result.andThen_ok,qT _ bn]
   rfl
  ·rw [if_neg bB]
   simp only [zeroValue,typeInfo,Sem.run_bind,run_program,nb,zT,Sem.run_pure,Result.andThen_ok];rw [qT _ bn];rfl
 ·refine .aA _ 0 _ _ _ [v] _ _ bn rfl ?_ (bZ.mono (r3 aF.wf.lt _ _)) eF ?_ (Nat.le_refl _) (fun _=>rfl) (fun b an=>by cases an)
  ·exact Cr (w:=w) (p:=p) (flat [v]) e
  ·omega
theorem aa.Bl (aO:bL P Γ) {t e:TypeId} {v:Value} {it aB:bJ} {x:ad} (ao:guardOf ops env o=some true) (ar:o.dst=some d) (aX:Nat.blt d N=true) (ag:o.op = .buildSlice t 1 #[(0,.const v)]) (aK:Γ.get? t=some it) (bo:it.bz = .aA e) (he:Γ.get? e=some aB) (zU:Nat.ble (1*aB.size) 16777216=true) (aE:gy v=some x) (b7:Nat.beq v.cells.size aB.size=true)
  (h:aa P N ops l Q ((d,.aA aB.size [x] .clip)::env) s):aa P N ops (o::l) Q env s:=
 aa.op ao ar aX (aU.Bl aO ag aK bo he zU aE b7) (fun x ah ⟨U,ae⟩=>by subst U;subst ae;exact h) (fun _ _ h=>h.elim)
end
end Go.bj
namespace Go.bj
section
variable {P:Program} {Γ:cg} {N:Nat} {l:List Oper} {i:Nat} {rest:List Oper} {Q:b2→Env→aj→Prop} {env:Env} {s:aj} {o:Oper} {d:Nat}
theorem aM.uU {L R K:a6} {X3:eb→a6→Prop} {b:Nat} {cQ:db} {f:FuncId} {fi:Array Operand} {cP:Array TypeId} {xs:List ad} (ao:guardOf l.toArray (bc env (looks l.toArray o)) o=some true) (ar:o.dst=some d) (aX:Nat.blt d N=true) (az:ed l.toArray (2^i-1) (idxs 0 l)=[i])
  (bW:o.op = .call { callee := .value (.func f),args:=fi,argTypes:=cP }) (aV:fg (bc env (looks l.toArray o)) fi.toList=some xs) (h:bu P f xs K X3) (I:Ok s L) (aw:au L K R)
  (aS:∀ x aL,X3 (.ret x) aL→∃ c4,aP (aL++R) (.own b) cQ c4)
  (aD:∀ x aL,X3 (.ret x) aL→Ok s (aL++R)→aM (fun ah=>ah b=some cQ) P Γ N l (i+1) rest Q ((d,x)::env) (aQ s (aL++R))) (ab:∀ x aL,X3 (.panic x) aL→Ok s (aL++R)→Q (.panic x) [] (aQ s (aL++R))):aM (fun ah=>ah b=some cQ) P Γ N l i (o::rest) Q env (aQ s L):=
 aM.vS ao ar aX az (aU.b0 bW aV h I aw) (fun x ah ⟨aL,U,ae,al⟩=>by subst U;obtain ⟨c4,gY⟩:=aS x aL al;exact gY.get ae) (fun x ah ⟨aL,U,ae,al⟩=>by subst U;exact aD x aL al ae) (fun x ah ⟨aL,U,ae,al⟩=>by subst U;exact ab x aL al ae)
end
end Go.bj
namespace Go.bj
section
variable {P:Program} {N:Nat} {ops:Array Oper} {Q:b2→Env→aj→Prop} {env:Env} {s:aj} {l:List Oper} {o:Oper} {d:Nat}
theorem aa.p' {g:Operand} {name:String} {fi:Array Operand} {cP:Array TypeId} {t:TypeId} {v:ad} {f:FuncId} {xs:List ad} {r:ad} (ao:guardOf ops env o=some true) (ar:o.dst=some d) (aX:Nat.blt d N=true)
  (ag:o.op = .call { callee := .invoke g name,args:=fi,argTypes:=cP }) (av:aJ env g=some (.iface t v)) (aV:fg env fi.toList=some xs) (hm:n1 P t name f) (h:a7 P f (v::xs) r)
  (aD:aa P N ops l Q ((d,r)::env) s):aa P N ops (o::l) Q env s:=
 aa.invoke ao ar aX ag av aV hm (h s) (fun x ah ⟨U,ae⟩=>by cases U;subst ae;exact aD) (fun x ah ⟨U,_⟩=>by cases U)
end
section
variable {P:Program} {Γ:cg} {N:Nat} {l:List Oper} {i:Nat} {rest:List Oper} {Q:b2→Env→aj→Prop} {env:Env} {s:aj} {o:Oper} {d:Nat} {L R:a6}
theorem aM.ij (aO:bL P Γ) (I:Ok s L) {t ds ew:TypeId} {x y:Operand} {ok:Bool} {it fN aB:bJ} {m:Nat} {es:List (ad×ad)} {k z:ad} {r:Option ad} (ao:guardOf l.toArray (bc env (looks l.toArray o)) o=some true) (ar:o.dst=some d) (aX:Nat.blt d N=true)
  (ag:o.op = .lookup t x y ok) (aK:Γ.get? t=some it) (bo:it.bz = .map ds ew) (ie:Γ.get? ds=some fN) (bF:Γ.get? ew=some aB) (ab:aJ (bc env (looks l.toArray o)) x=some (.map m)) (ay:aJ (bc env (looks l.toArray o)) y=some k) (aw:aP L (.own m) (.map es) R)
  (ba:iZ fN.bz k=true) (az:h1 es k=some r) (bE:gy aB.zero=some z) (h:aM (fun ah=>ah=aQ s L) P Γ N l (i+1) rest Q ((d,ko ok z r)::env) (aQ s L)):aM (fun ah=>ah=aQ s L) P Γ N l i (o::rest) Q env (aQ s L):=
 aM.calm ao ar aX (fun _ e=>by subst e;exact aU.ij aO I ag aK bo ie bF ab ay aw ba az bE) h
end
section
variable {J:aj→Prop} {P:Program} {Γ:cg} {N:Nat} {l:List Oper} {i:Nat} {Q:b2→Env→aj→Prop} {env:Env} {s:aj} {o:Oper} {L R:a6}
theorem aM.lF (aO:bL P Γ) (I:Ok s L) {t ds ew:TypeId} {x y z:Operand} {it fN:bJ} {b:Nat} {es:List (ad×ad)} (c5:List (ad×ad)) {k v:ad} (ao:guardOf l.toArray (bc env (looks l.toArray o)) o=some true) (ar:o.dst=none) (kD:jL l.toArray i=true)
  (bW:o.op = .mapUpdate t x y z∨o.op = .insert t x y z) (aK:Γ.get? t=some it) (bo:it.bz = .map ds ew) (ie:Γ.get? ds=some fN) (ab:aJ (bc env (looks l.toArray o)) x=some (.map b)) (ay:aJ (bc env (looks l.toArray o)) y=some k) (bE:aJ (bc env (looks l.toArray o)) z=some v)
  (aw:aP L (.own b) (.map es) R) (ba:iZ fN.bz k=true) (aN:kn es k v=some c5)
  (h:Ok s ((.own b,.map c5)::R)→Q .normal env (aQ s ((.own b,.map c5)::R))):aM J P Γ N l i [o] Q env (aQ s L):=
 aM.DO ao ar kD (aU.lF aO I bW aK bo ie ab ay bE aw ba aN (X:=fun _ _=>False)) (fun x ah ⟨U,ae⟩=>by subst U;exact h ae) (fun _ _ h=>h.elim)
end
end Go.bj
namespace Go.Proofs.YtnafpeohfbglmaaGreat
open Go.bj Go.bY
def jW:ca→ad
 | .leaf ms => .iface 154 (.agg [bI ms])
 | .test i a b => .iface 156 (.agg [.int .i64 (i:Int),jW a,jW b])
theorem Sp:n1 Tryz.prog 154 "consort/tree.size" 333 := Av aq
theorem Sq:n1 Tryz.prog 156 "consort/tree.size" 334 := Av aq
theorem Sr (ms:List Int):a7 Tryz.prog 333 [.agg [bI ms]] (.cl [.int .i64 0,.int .i64 1]):=by
 have an:=bQ;refine a7.bp ak call333 Tryz.func333 C C fun s I=>?_
 unfold bI;refine nv ?_;exact bA I
theorem rM:∀ t:ca,∃ ty v f,jW t = .iface ty v∧n1 Tryz.prog ty "consort/tree.size" f∧(t.leaves<2^40→a7 Tryz.prog f [v] (.cl [.int .i64 (t.iD:Int),.int .i64 (t.leaves:Int)]))
  | .leaf ms=>⟨_,_,_,rfl,Sp,fun _=>Sr ms⟩
  | .test i a b=>by
    obtain ⟨t1,v1,f1,b8,lQ,cr⟩:=rM a;obtain ⟨t2,v2,f2,bZ,gv,cJ⟩:=rM b;refine ⟨_,_,_,rfl,Sq,fun aI=>?_⟩;rw [ca.leaves] at aI;have cr:=cr ai;have cJ:=cJ ai;have U:=a.Bj;have ae:=b.Bj;rw [b8,bZ,ca.iD,ca.leaves];refine a7.bp ak call334 Tryz.func334 C C fun s I=>?_
    refine dF ?_;refine aa.p' C C C C C C lQ cr ?_;refine gB ?_;refine aa.p' C C C C C C gv cJ ?_;refine bP ?_;refine Fin.dT I C (a8.of_eq ?_);rw [e0 ub ub,e0 ai ai];congr 3
    · congr 1
      split<;>omega
theorem Ss (a b:ca) (aV:a.leaves<2^40) (dz:b.leaves<2^40):a7 Tryz.prog 108 [jW a,jW b] (.bool (a.before b)):=by
 have an:=bQ;refine a7.bp ak call108 Tryz.func108 C C fun s I=>?_
 obtain ⟨t1,v1,f1,b8,lQ,cr⟩:=rM a;obtain ⟨t2,v2,f2,bZ,gv,cJ⟩:=rM b;have cr:=cr aV;have cJ:=cJ dz;rw [b8,bZ];unfold ca.before;refine dF ?_;refine aa.p' C C C C C C lQ cr ?_;refine gB ?_;refine aa.p' C C C C C C gv cJ ?_;by_cases U:a.iD<b.iD
 ·rw [decide_eq_true U,Bool.true_or]
  refine gB ?_;refine aa.eH 22 C (decide_eq_true ai) ?_;refine cC ?_;exact bA I
 ·rw [decide_eq_false U,Bool.false_or]
  refine gB ?_;refine aa.dR 22 C (decide_eq_false ai) ?_;by_cases ae:a.iD=b.iD
  ·rw [decide_eq_true ae,Bool.true_and]
   refine d' ?_;refine aa.eH 26 C dq ?_;refine dO ?_;refine Fin.dT I C (a8.of_eq (congrArg ad.bool ?_));rw [Bool.eq_iff_iff];simp
  ·rw [decide_eq_false ae,Bool.false_and]
   refine d' ?_;refine aa.dR 26 C dq ?_;refine cC ?_;exact bA I
end Go.Proofs.YtnafpeohfbglmaaGreat
namespace Go.bj
theorem sQ {sz:Nat} {cs:List ad} {xss:List (List ad)} {n j k:Nat} {ys:List ad} {v:ad} (b7:∀ c∈xss,c.length=sz) (ab:cs.take (n*sz)=xss.flatten) (aS:xss[j]? = some ys) (aD:k<sz) :
  (eg (j*sz+k) [v] cs).length=cs.length∧(eg (j*sz+k) [v] cs).take (n*sz)=(xss.set j (ys.set k v)).flatten:=by
 have gN:=b7 ys (List.mem_of_getElem? aS);have h:=JS (ys':=ys.set k v) b7 ab aS (by rw [List.length_set];exact gN);obtain ⟨a,z,ae,al,-⟩:=Bf b7 aS;have aE:cs=a++(ys++(z++cs.drop (n*sz))):=by
  conv=>lhs;rw [← List.take_append_drop (n*sz) cs,ab,ae]
  simp
 have e:eg (j*sz) (ys.set k v) cs=eg (j*sz+k) [v] cs:=by
  rw [ru]
  conv=>lhs;rw [aE,← al]
  conv=>rhs;rw [aE,← al]
  rw [EG ys _ a _ (List.length_set ..),List.set_append_right _ _ ai,Nat.add_sub_cancel_left,List.set_append_left _ _ ai]
 rw [e] at h;exact h
theorem JX {sz:Nat} {cs:List ad} {xss:List (List ad)} {n j k:Nat} {ys:List ad} {v:ad} (b7:∀ c∈xss,c.length=sz) (ab:cs.take (n*sz)=xss.flatten) (aS:xss[j]? = some ys) (aD:ys[k]? = some v):cs[j*sz+k]? = some v:=by
 obtain ⟨a,z,ae,al,-⟩:=Bf b7 aS;have aE:cs=a++(ys++(z++cs.drop (n*sz))):=by
  conv=>lhs;rw [← List.take_append_drop (n*sz) cs,ab,ae]
  simp
 have uQ:=(List.getElem?_eq_some_iff.1 aD).1;rw [aE,← al,List.getElem?_append_right ai,Nat.add_sub_cancel_left,List.getElem?_append_left uQ];exact aD
end Go.bj
namespace Go.Proofs.YtnafpeohfbglmaaGreat
open Go.bj Go.bY
abbrev wE:=Option (Nat×Nat×List ad)
def hl:wE→List bC→ad
 | none,_ => .aA 0 [] .nil
 | some (g,cap,_),l=>dG g l.length cap
def gm:wE→a6
 | none=>[]
 | some (g,_,cs)=>[(.own g,.box 69 cs)]
def qq:wE→List bC→Prop
 | none,l=>l=[]
 | some (_,cap,cs),l=>cs.length=cap*4∧l.length≤cap∧cs.take (l.length*4)=(l.map fj).flatten
theorem kh (l:List bC):∀ c∈l.map fj,c.length=4:=fun c aE=>by obtain ⟨x,-,rfl⟩:=List.mem_map.1 aE;rfl
theorem qs (l:List bC) (x:bC):((l++[x]).map fj).flatten=(l.map fj).flatten++fj x:=by simp
theorem rN:∀ (t:ca) (L:List bC),(ca.laid L t).length+1=L.length+2*t.leaves
  | .leaf ms,L=>by rw [ca.laid,ca.leaves,List.length_append];rfl
  | .test i a b,L=>by
    have U:=rN a (L++[⟨i,0,0,[]⟩]);have ae:=rN b (ca.laid (L++[⟨i,0,0,[]⟩]) a);rw [ca.laid,ca.leaves,List.length_set];rw [List.length_append,List.length_cons,List.length_nil] at U;omega
theorem yQ:∀ (t:ca) (L:List bC) (j:Nat),j<L.length→(ca.laid L t)[j]? = L[j]?
  | .leaf ms,L,j,h=>by rw [ca.laid,List.getElem?_append_left h]
  | .test i a b,L,j,h=>by
    rw [ca.laid];rw [List.getElem?_set_ne ai,yQ b _ j (by have U:=rN a (L++[⟨i,0,0,[]⟩]);have ae:=a.px;rw [List.length_append,List.length_cons,List.length_nil] at U;omega),yQ a _ j (by rw [List.length_append];omega),List.getElem?_append_left h]
theorem St:∀ (t:ca) (L:List bC) (bw:wE),qq bw L→L.length+2*t.leaves<2^31 →
  bu Tryz.prog 61 [hl bw L,jW t] (gm bw) (fun o K=>∃ ps,qq ps (ca.laid L t)∧o = .ret (.cl [hl ps (ca.laid L t),.int .i64 (L.length:Int)])∧K=gm ps):=by
 have k0:bt=1099511627776:=rfl;intro t
 induction t with
 | leaf ms=>
  intro L bw dy eG;rw [ca.leaves] at eG;refine bu.bp ak call61 Tryz.func61 C C fun s I=>?_
  rw [ca.laid];rcases bw with _|⟨g,cap,cs⟩
  ·have bB:L=[]:=dy
   subst bB;unfold hl gm jW at *;refine gP ?_;refine aa.ow ak I C C C C C C C eQ C C C C C C C dd (fun dk eI eA cr cJ dW I=>?_);refine bP ?_;exact Fin.bH I C aR (by simp only [gm];repeat (first|exact au.nil|(apply au.cons;· repeat (first|exact aP.here|apply aP.there)))) ⟨some (dk,eI,eA),⟨cr,cJ,dW.trans (by simp;rfl)⟩,rfl,rfl⟩
  ·obtain ⟨U,ae,al⟩:=dy
   unfold hl gm jW at *;refine dF ?_;refine aa.sm ak C C C C C C C ?_;refine gP ?_;refine aa.ox ak I C C C C C C C eQ C C C C a1 U ae C C C C (by show (L.length+1)*48≤_;omega) ai (fun dk eI eA cr cJ dW I=>?_);refine bP ?_;exact Fin.bH I C (a8.of_eq (by simp [dG,hl])) (by simp only [gm];repeat (first|exact au.nil|(apply au.cons;· repeat (first|exact aP.here|apply aP.there)))) ⟨some (dk,eI,eA),⟨cr,ot,by rw [qs,List.length_append,List.length_cons,List.length_nil,← al];exact dW⟩,rfl,rfl⟩
 | test i a b pz yR=>
  intro L bw dy eG;rw [ca.leaves] at eG;have JY:=a.px;have eD:=b.px;have Bm:=rN a (L++[⟨i,0,0,[]⟩]);have vP:=rN b (ca.laid (L++[⟨i,0,0,[]⟩]) a);have Bn:(L++[(⟨i,0,0,[]⟩:bC)]).length=L.length+1:=by simp
  rw [Bn] at Bm;have nW:(ca.laid (ca.laid (L++[⟨i,0,0,[]⟩]) a) b)[L.length]? = some ⟨i,0,0,[]⟩:=by
   rw [yQ b _ _ ai,yQ a _ _ ai,List.getElem?_append_right (Nat.le_refl _),Nat.sub_self];rfl
  have pz:=fun bw h=>pz (L++[⟨i,0,0,[]⟩]) bw h ai
  have yR:=fun bw h=>yR (ca.laid (L++[⟨i,0,0,[]⟩]) a) bw h ai
  have qt:ca.laid L (.test i a b)=(ca.laid (ca.laid (L++[⟨i,0,0,[]⟩]) a) b).set L.length ⟨i,(L.length:Int)+1,((ca.laid (L++[⟨i,0,0,[]⟩]) a).length:Int),[]⟩:=rfl;rw [qt];obtain ⟨Xh,Bo,xn,tD,-,-⟩:=rM a;obtain ⟨MY,xw,cm,EM,-,-⟩:=rM b;simp only [tD] at pz;simp only [EM] at yR;generalize jg:ca.laid (L++[⟨i,0,0,[]⟩]) a=wA at *;generalize qu:ca.laid wA b=fl at *;refine bu.bp ak call61 Tryz.func61 C C fun s I=>?_
  rcases bw with _|⟨g,cap,cs⟩
  ·have bB:L=[]:=dy
   subst bB;unfold hl jW;rw [tD,EM];unfold gm at I ⊢;refine gP ?_;refine aa.mf 30 (.aA 4 [.agg (fj ⟨i,0,0,[]⟩)] .bd) C (a8.aA (.one (a8.agg (.cons aR (.cons aR (.cons aR (.one a8.empty))))))) ?_;refine aa.ow ak I C C C C C C C eQ C C C C C C C dd (fun dk eI eA cr cJ dW I=>?_);have pz:=pz (some (dk,eI,eA)) ⟨cr,cJ,dW.trans bn⟩;simp only [hl,Bn] at pz;refine bP ?_;refine aa.b0 C C C C C pz I (by simp only [gm];repeat (first|exact au.nil|(apply au.cons;· repeat (first|exact aP.here|apply aP.there)))) ?_ (fun _ _ ⟨_,_,h,_⟩ _=>by cases h);rintro _ _ ⟨EN,lD,⟨⟩,rfl⟩ I;rw [List.append_nil] at I ⊢;refine gB ?_;refine aa.b0 rfl rfl rfl rfl rfl (yR EN lD) I (au.all _) ?_ (fun _ _ ⟨_,_,h,_⟩ _=>by cases h);rintro _ _ ⟨pA,lr,⟨⟩,rfl⟩ I;rw [List.append_nil] at I ⊢;rcases pA with _|⟨g2,uV,Su⟩
   ·have bB:fl=[]:=lr
    rw [bB] at nW;cases nW
   obtain ⟨g1,g3,g4⟩:=lr;have pU:=sQ (k:=1) (v := .int .i64 (((([]:List bC)).length+1:Nat):Int)) (kh fl) g4 (by rw [List.getElem?_map,nW];rfl) ai
   have o0:=sQ (k:=2) (v := .int .i64 ((wA.length:Nat):Int)) (fun c aE=>by
    rcases List.mem_or_eq_of_mem_set aE with aE|rfl
    ·exact kh fl c aE
    ·rfl) pU.2 (List.getElem?_set_self nL) ai
   unfold gm at I ⊢;unfold hl;refine gB ?_;refine aa.e7 ak (([]:List bC)).length C C C C C C C C C C ai ?_;refine d' ?_;refine aa.kF ak I _ C C C C C C C C C a1 (by rw [g1];show (([]:List bC)).length*4+1+1≤uV*4;omega) C (fun I=>?_);refine aa.e7 ak (([]:List bC)).length C C C C C C C C C C ai ?_;refine d' ?_;refine aa.kF ak I _ C C C C C C C C C a1 (by rw [pU.1,g1];show (([]:List bC)).length*4+2+1≤uV*4;omega) C (fun I=>?_);refine bP ?_;refine Fin.bH I C aR (by simp only [gm];repeat (first|exact au.nil|(apply au.cons;· repeat (first|exact aP.here|apply aP.there)))) ⟨some (g2,uV,_),⟨o0.1.trans (pU.1.trans g1),(by rw [List.length_set];exact g3),?_⟩,?_,rfl⟩
   ·rw [List.length_set]
    refine o0.2.trans ?_;rw [List.set_set,List.map_set];rfl
   ·simp only [List.length_set]
    try rfl
  ·obtain ⟨U,ae,al⟩:=dy
   unfold hl jW;rw [tD,EM];unfold gm at I ⊢;refine dF ?_;refine aa.sm ak C C C C C C C ?_;refine gP ?_;refine aa.mf 30 (.aA 4 [.agg (fj ⟨i,0,0,[]⟩)] .bd) C (a8.aA (.one (a8.agg (.cons aR (.cons aR (.cons aR (.one a8.empty))))))) ?_;refine aa.ox ak I C C C C C C C eQ C C C C a1 U ae C C C C (by show (L.length+1)*48≤_;omega) ai (fun dk eI eA cr cJ dW I=>?_);have pz:=pz (some (dk,eI,eA)) ⟨cr,ot,by rw [qs,Bn,← al];exact dW⟩;simp only [hl,Bn] at pz;refine bP ?_;refine aa.b0 C C C C C pz I (by simp only [gm];repeat (first|exact au.nil|(apply au.cons;· repeat (first|exact aP.here|apply aP.there)))) ?_ (fun _ _ ⟨_,_,h,_⟩ _=>by cases h);rintro _ _ ⟨EN,lD,⟨⟩,rfl⟩ I;rw [List.append_nil] at I ⊢;refine gB ?_;refine aa.b0 rfl rfl rfl rfl rfl (yR EN lD) I (au.all _) ?_ (fun _ _ ⟨_,_,h,_⟩ _=>by cases h);rintro _ _ ⟨pA,lr,⟨⟩,rfl⟩ I;rw [List.append_nil] at I ⊢;rcases pA with _|⟨g2,uV,Su⟩
   ·have bB:fl=[]:=lr
    rw [bB] at nW;cases nW
   obtain ⟨g1,g3,g4⟩:=lr;have pU:=sQ (k:=1) (v := .int .i64 (((L).length+1:Nat):Int)) (kh fl) g4 (by rw [List.getElem?_map,nW];rfl) ai
   have o0:=sQ (k:=2) (v := .int .i64 ((wA.length:Nat):Int)) (fun c aE=>by
    rcases List.mem_or_eq_of_mem_set aE with aE|rfl
    ·exact kh fl c aE
    ·rfl) pU.2 (List.getElem?_set_self nL) ai
   unfold gm at I ⊢;unfold hl;refine gB ?_;refine aa.e7 ak (L).length C C C C C C C C C C ai ?_;refine d' ?_;refine aa.kF ak I _ C C C C C C C C C a1 (by rw [g1];show (L).length*4+1+1≤uV*4;omega) C (fun I=>?_);refine aa.e7 ak (L).length C C C C C C C C C C ai ?_;refine d' ?_;refine aa.kF ak I _ C C C C C C C C C a1 (by rw [pU.1,g1];show (L).length*4+2+1≤uV*4;omega) C (fun I=>?_);refine bP ?_;refine Fin.bH I C aR (by simp only [gm];repeat (first|exact au.nil|(apply au.cons;· repeat (first|exact aP.here|apply aP.there)))) ⟨some (g2,uV,_),⟨o0.1.trans (pU.1.trans g1),(by rw [List.length_set];exact g3),?_⟩,?_,rfl⟩
   ·rw [List.length_set]
    refine o0.2.trans ?_;rw [List.set_set,List.map_set];rfl
   ·simp only [List.length_set]
    try rfl
end Go.Proofs.YtnafpeohfbglmaaGreat
namespace Go.bY
theorem wF {α:Type} {f:Nat→α→Bool}:∀ {l:List α} {k j:Nat},k7 f k l=some j→k≤j∧j<k+l.length∧∃ x,l[j-k]? = some x∧f j x=true
  | x::r,k,j,h=>by
    rw [k7] at h;split at h
    · rename_i Xi aS
      cases h;obtain ⟨U,ae,y,al,bl⟩:=wF aS;refine ⟨by omega,by rw [List.length_cons];omega,y,?_,bl⟩;rw [show j-k=(j-(k+1))+1 by omega];exact al
    · split at h
      · cases h
        rename_i ba;exact ⟨Nat.le_refl _,by rw [List.length_cons];omega,x,by rw [Nat.sub_self];rfl,ba⟩
      · cases h
theorem mw:∀ (l:List bC) (i:Nat),(b4 i l).1.length=l.length∧(b4 i l).2.length=l.length
  | [],i=>⟨rfl,rfl⟩
  | x::r,i=>by
    have:=mw r (i+1);rw [b4];simp only [List.length_cons];omega
def Sv (n i:Nat) (l:List bC):Prop:=∀ k,k<l.length →
 ((i:Int)+k≤(b4 i l).1.getD k 0∧(b4 i l).1.getD k 0<n)∧((b4 i l).2.getD k default).atom=(l.getD k default).atom∧((b4 i l).2.getD k default).ms=(l.getD k default).ms ∧
 (((b4 i l).2.getD k default).atom≥0→(i:Int)+k<((b4 i l).2.getD k default).no∧((b4 i l).2.getD k default).no<n∧(i:Int)+k<((b4 i l).2.getD k default).yes∧((b4 i l).2.getD k default).yes<n)
theorem EO {n:Nat}:∀ (l:List bC) (i:Nat),i+l.length=n→(∀ (k:Nat) (x:bC),l[k]? = some x→x.atom≥0→((i+k:Nat):Int)<x.no∧x.no<n∧((i+k:Nat):Int)<x.yes∧x.yes<n)→Sv n i l
  | [],_,_,_=>fun k aD=>absurd aD (Nat.not_lt_zero _)
  | x::r,i,aC,ba=>by
    have a':=EO (n:=n) r (i+1) (by rw [List.length_cons] at aC;omega) (fun k y ay=>by
      have:=ba (k+1) y (by simpa using ay)
      rwa [show i+(k+1)=i+1+k by omega] at this)
    have aI:=mw r (i+1);rw [List.length_cons] at aC;have bB:=ba 0 x C;intro k aD;cases k with
    | succ k=>
      have:=a' k (by rw [List.length_cons] at aD;omega);rw [b4];simp only [List.getD_cons_succ];obtain ⟨⟨eJ,a2⟩,a3,a4,a5⟩:=this;refine ⟨⟨by push_cast at eJ ⊢;omega,a2⟩,a3,a4,fun h=>?_⟩;obtain ⟨ix,dk,n2,pB⟩:=a5 h;exact ⟨by push_cast at ix ⊢;omega,dk,by push_cast at n2 ⊢;omega,pB⟩
    | zero=>
      have aV:x.atom≥0→(i:Int)<x.no∧x.no<n∧(i:Int)<x.yes∧x.yes<n:=fun h=>bB h
      have js:∀ m:Int,(i:Int)<m→m<n→(i:Int)<(b4 (i+1) r).1.getD (m.toNat-(i+1)) 0∧(b4 (i+1) r).1.getD (m.toNat-(i+1)) 0<n:=fun m U ae=>by
        have:=(a' (m.toNat-(i+1)) ai).1;omega
      rw [b4];simp only [List.getD_cons_zero];refine ⟨?_,by split<;>rfl,by split<;>rfl,?_⟩
      · split
        · rename_i j aS
          obtain ⟨U,ae,-⟩:=wF aS;omega
        · omega
      · split
        · rename_i h
          intro _;obtain ⟨ix,dk,n2,pB⟩:=aV h;have cr:=js x.no ix dk;have cJ:=js x.yes n2 pB;simp only;omega
        · rename_i h
          intro ae;exact absurd ae h
theorem EP {α:Type} {f:Nat→α→Bool}:∀ {l:List α} {k:Nat},k7 f k l=none→∀ j x,l[j]? = some x→f (k+j) x=false
  | y::r,k,h,j,x,ab=>by
    rw [k7] at h;split at h
    · cases h
    · rename_i az
      split at h
      · cases h
      · rename_i ba
        cases j with
        | zero=>
          cases ab;simpa using ba
        | succ j=>
          have:=EP az j x (by simpa using ab);rwa [show k+(j+1)=k+1+j by omega]
theorem JZ:∀ (l:List bC) (i a b:Nat),a<b→b<l.length→(b4 i l).1.getD a 0=((i+a:Nat):Int)→(b4 i l).1.getD b 0=((i+b:Nat):Int)→(b4 i l).2.getD a default≠(b4 i l).2.getD b default
  | [],_,_,_,_,h,_,_=>absurd h (Nat.not_lt_zero _)
  | x::r,i,0,b+1,_,an,U,ae=>by
    have aI:=mw r (i+1);rw [List.length_cons] at an;rw [b4] at U ae ⊢;simp only [List.getD_cons_zero,List.getD_cons_succ] at U ae ⊢;split at U
    · rename_i j aS
      omega
    · rename_i aC
      obtain ⟨z,bE⟩:∃ z,(b4 (i+1) r).2[b]? = some z:=⟨_,List.getElem?_eq_getElem ai⟩;have:=EP aC b z bE;rw [Nat.zero_add,show (b4 (i+1) r).1.getD b 0=((i+1+b:Nat):Int) by rw [ae];omega] at this;simp only [beq_self_eq_true,Bool.true_and,beq_eq_false_iff_ne] at this;rw [show (b4 (i+1) r).2.getD b default=z by rw [List.getD_eq_getElem?_getD,bE];rfl];exact fun he=>this he.symm
  | x::r,i,a+1,b+1,hB,an,U,ae=>by
    rw [b4] at U ae ⊢;simp only [List.getD_cons_succ] at U ae ⊢;exact JZ r (i+1) a b ai (by rw [List.length_cons] at an;omega) (by rw [U];omega) (by rw [ae];omega)
theorem J0 {α:Type} (f:Nat→α→Bool) (x:α):∀ (l:List α) (k:Nat),k7 f k (l++[x])=if f (k+l.length) x then some (k+l.length) else k7 f k l
  | [],k=>by rw [List.nil_append,k7,k7];rfl
  | y::r,k=>by
    have e:k+1+r.length=k+(y::r).length:=by rw [List.length_cons];omega
    rw [List.cons_append,k7,J0 f x r (k+1),e,k7];by_cases h:f (k+(y::r).length) x=true
    · rw [if_pos h,if_pos h]
    · rw [if_neg h,if_neg h]
structure oz (g:List bC):Prop where
 pos:1≤g.length
 len:g.length≤1000
 ms:∀ x∈g,x.ms.length≤16
 eo:∀ (i:Nat) (x:bC),g[i]? = some x→x.atom≥0→(i:Int)<x.no∧x.no<g.length∧(i:Int)<x.yes∧x.yes<g.length
def e4 (g:List bC) (m:Nat):List Int:=List.replicate m 0++(b4 m (g.drop m)).1
def hX (g:List bC) (m:Nat):List bC:=g.take m++(b4 m (g.drop m)).2
theorem wG (g:List bC) {m:Nat} (h:m≤g.length):(e4 g m).length=g.length:=by
 unfold e4;rw [List.length_append,List.length_replicate,(mw _ _).1,List.length_drop];omega
theorem yS (g:List bC) {m:Nat} (h:m≤g.length):(hX g m).length=g.length:=by
 unfold hX;rw [List.length_append,List.length_take,(mw _ _).2,List.length_drop];omega
theorem yT (g:List bC) (m:Nat) (j:Nat):(e4 g m).getD (m+j) 0=(b4 m (g.drop m)).1.getD j 0:=by
 unfold e4;rw [List.getD_eq_getElem?_getD,List.getD_eq_getElem?_getD,List.getElem?_append_right (by rw [List.length_replicate];omega),List.length_replicate,Nat.add_sub_cancel_left]
theorem J1 (g:List bC) {m:Nat} (h:m≤g.length) (j:Nat):(hX g m)[m+j]? = (b4 m (g.drop m)).2[j]?:=by
 unfold hX;rw [List.getElem?_append_right w9,List.length_take,Nat.min_eq_left h,Nat.add_sub_cancel_left]
theorem J2 (g:List bC) {m i:Nat} (h:i<m) (hm:m≤g.length):(hX g m)[i]? = g[i]?:=by
 unfold hX;rw [List.getElem?_append_left w9,List.getElem?_take,if_pos h]
def jX (g:List bC) (m:Nat) (x:bC):bC:=if x.atom≥0 then { x with no:=(e4 g (m+1)).getD x.no.toNat 0,yes:=(e4 g (m+1)).getD x.yes.toNat 0 } else x
def jY (g:List bC) (m:Nat) (y:bC) (j:Nat) (z:bC):Bool:=(b4 (m+1) (g.drop (m+1))).1.getD j 0==((m+1+j:Nat):Int)&&z==y
theorem ER {g:List bC} (ao:oz g) {m:Nat} {x:bC} (ab:g[m]? = some x) :
  b4 m (g.drop m)=((match k7 (jY g m (jX g m x)) 0 (b4 (m+1) (g.drop (m+1))).2 with
   | some j=>((m+1+j:Nat):Int)
   | none=>(m:Int))::(b4 (m+1) (g.drop (m+1))).1,jX g m x::(b4 (m+1) (g.drop (m+1))).2):=by
 have aG:m<g.length:=(List.getElem?_eq_some_iff.1 ab).1;have ar:g.drop m=x::g.drop (m+1):=by
  rw [List.drop_eq_getElem_cons aG,(List.getElem?_eq_some_iff.1 ab).2]
 rw [ar,b4];have ay:(if x.atom≥0 then { x with no:=(b4 (m+1) (g.drop (m+1))).1.getD (x.no.toNat-(m+1)) 0,yes:=(b4 (m+1) (g.drop (m+1))).1.getD (x.yes.toNat-(m+1)) 0 } else x)=jX g m x:=by
  unfold jX;split
  ·rename_i h
   have:=ao.eo m x ab h;rw [← yT,← yT,show m+1+(x.no.toNat-(m+1))=x.no.toNat by omega,show m+1+(x.yes.toNat-(m+1))=x.yes.toNat by omega]
  ·rfl
 simp only [ay];rfl
theorem Sw (x y:bC):(x==y)=(decide (x.atom=y.atom)&&(decide (x.no=y.no)&&(decide (x.yes=y.yes)&&x.ms==y.ms))):=by
 obtain ⟨a,b,c,d⟩:=x;obtain ⟨cR,aT,mN,cM⟩:=y;rw [Bool.eq_iff_iff];simp
theorem fu {α:Type} {l:List α} {m:Nat} {x:α} (h:l[m]? = some x):l.set m x=l:=by
 apply List.ext_getElem?;intro j;rw [List.getElem?_set];split
 ·rename_i e
  subst e;have:=(List.getElem?_eq_some_iff.1 h).1;rw [if_pos this,h]
 ·rfl
theorem ES {g:List bC} {m:Nat} {k:Int} {r:List Int} {ys:List bC} (h:b4 m (g.drop m)=(k::r,ys)) (ae:(b4 (m+1) (g.drop (m+1))).1=r):(e4 g (m+1)).set m k=e4 g m:=by
 unfold e4;rw [h,ae,List.replicate_succ',List.append_assoc,List.set_append_right _ _ (by rw [List.length_replicate];omega),List.length_replicate,Nat.sub_self];rfl
theorem J3 {g:List bC} {m:Nat} {y:bC} {r:List bC} {ks:List Int} (aG:m<g.length) (h:b4 m (g.drop m)=(ks,y::r)) (ae:(b4 (m+1) (g.drop (m+1))).2=r):(hX g (m+1)).set m y=hX g m:=by
 unfold hX;rw [h,ae,List.take_add_one,List.getElem?_eq_getElem aG,List.append_assoc,List.set_append_right _ _ w9,List.length_take,Nat.min_eq_left ai,Nat.sub_self];rfl
theorem yU:∀ (l:List bC) (i k:Nat) (z:bC),(b4 i l).2[k]? = some z→∃ x∈l,z.ms=x.ms
  | [],i,k,z,h=>by rw [b4] at h;cases h
  | x::r,i,0,z,h=>by
    rw [b4] at h;simp only [List.getElem?_cons_zero,Option.some.injEq] at h;refine ⟨x,List.mem_cons_self,?_⟩;rw [← h];split<;>rfl
  | x::r,i,k+1,z,h=>by
    rw [b4] at h;simp only [List.getElem?_cons_succ] at h;obtain ⟨y,U,ae⟩:=yU r (i+1) k z h;exact ⟨y,List.mem_cons_of_mem _ U,ae⟩
theorem J4 (g:List bC) (m:Nat) (x:bC):(jX g m x).ms=x.ms:=by unfold jX;split<;>rfl
end Go.bY
namespace Go.bY
open Go.bj
def ET (es:List (ad×ad)):Prop:=∀ e∈es,∃ n:Int,e.1 = .int .i64 n
theorem EU {x:Int} {v:ad}:∀ {es:List (ad×ad)},ET es→∃ c5,kn es (.int .i64 x) v=some c5∧ET c5∧∀ y:Int,h1 c5 (.int .i64 y)=if y=x then some (some v) else h1 es (.int .i64 y)
  | [],_=>⟨[(.int .i64 x,v)],rfl,fun e he=>by rw [List.mem_singleton.1 he];exact ⟨x,rfl⟩,fun y=>by
    rw [h1,h1]
    by_cases h:y=x
    · subst h;simp [iY]
    · have:(y==x)=false:=by rw [beq_eq_false_iff_ne];exact h
      simp only [iY,if_true,this,if_neg h];rfl⟩
  | e::r,h=>by
    obtain ⟨n,aC⟩:=h e List.mem_cons_self;obtain ⟨k,u⟩:=e;have aC:k = .int .i64 n:=aC;subst aC;by_cases ab:n=x
    · subst ab
      refine ⟨(.int .i64 n,v)::r,by rw [kn];simp [iY],fun e he=>?_,fun y=>?_⟩
      · rcases List.mem_cons.1 he with rfl|he
        · exact ⟨n,rfl⟩
        · exact h e (List.mem_cons_of_mem _ he)
      · rw [h1,h1]
        by_cases ay:y=n
        · subst ay;simp [iY]
        · have:(y==n)=false:=by rw [beq_eq_false_iff_ne];exact ay
          simp only [iY,if_true,this,if_neg ay]
    · obtain ⟨c5,U,ae,al⟩:=EU (x:=x) (v:=v) (es:=r) fun e he=>h e (List.mem_cons_of_mem _ he)
      have an:(x==n)=false:=by rw [beq_eq_false_iff_ne];exact fun e=>ab e.symm
      refine ⟨(.int .i64 n,u)::c5,by rw [kn];simp only [iY,if_true,an,U],fun e he=>?_,fun y=>?_⟩
      · rcases List.mem_cons.1 he with rfl|he
        · exact ⟨n,rfl⟩
        · exact ae e he
      · rw [h1,h1,al]
        by_cases ay:y=n
        · subst ay
          simp [iY,ab]
        · have:(y==n)=false:=by rw [beq_eq_false_iff_ne];exact ay
          simp only [iY,if_true,this]
structure oA (num:List (ad×ad)) (order path:List Int):Prop where
 int:ET num
 get:∀ x:Int,h1 num (.int .i64 x)=some (if order.contains x then some (.int .i64 (placeOf order x)) else if path.contains x then some (.int .i64 (-1)) else none)
theorem oA.empty:oA [] [] []:=⟨fun _ h=>(by cases h),fun _=>rfl⟩
theorem oA.enter {num:List (ad×ad)} {order path:List Int} (h:oA num order path) {eo:Int} (U:order.contains eo=false) :
  ∃ sR,kn num (.int .i64 eo) (.int .i64 (-1))=some sR∧oA sR order (eo::path):=by
 obtain ⟨es,ae,al,bl⟩:=EU (x:=eo) (v := .int .i64 (-1)) h.int;refine ⟨es,ae,al,fun x=>?_⟩;rw [bl,h.get,List.contains_cons];by_cases ab:x=eo
 ·subst ab
  rw [if_pos C,U];simp
 ·rw [if_neg ab,show (x==eo)=false by rw [beq_eq_false_iff_ne];exact ab,Bool.false_or]
theorem Sx {order:List Int} {eo:Int} (h:order.contains eo=false):placeOf (order++[eo]) eo=(order.length:Int):=by
 unfold placeOf;have:(order++[eo]).findIdx? (· == eo)=some order.length:=by
  rw [List.findIdx?_append];have aC:order.findIdx? (· == eo)=none:=by
   rw [List.findIdx?_eq_none_iff];intro x ab;rw [beq_eq_false_iff_ne];rintro rfl;rw [List.contains_iff_mem.2 ab] at h;cases h
  rw [aC];simp [List.findIdx?_cons]
 rw [this];rfl
theorem Sy {order:List Int} {eo x:Int} (h:order.contains x=true):placeOf (order++[eo]) x=placeOf order x:=by
 unfold placeOf;rw [List.findIdx?_append];cases ba:order.findIdx? (· == x) with
 | some i=>rfl
 | none=>
  rw [List.findIdx?_eq_none_iff] at ba;have:=ba x (List.contains_iff_mem.1 h);simp at this
theorem oA.leave {num:List (ad×ad)} {order path:List Int} {eo:Int} (h:oA num order (eo::path)) (U:order.contains eo=false) :
  ∃ sR,kn num (.int .i64 eo) (.int .i64 (order.length:Int))=some sR∧oA sR (order++[eo]) path:=by
 obtain ⟨es,ae,al,bl⟩:=EU (x:=eo) (v := .int .i64 (order.length:Int)) h.int;refine ⟨es,ae,al,fun x=>?_⟩;rw [bl,h.get,List.contains_append,List.contains_cons,List.contains_cons];by_cases ab:x=eo
 ·subst ab
  rw [if_pos C,U,Sx U];simp
 ·rw [if_neg ab,show (x==eo)=false by rw [beq_eq_false_iff_ne];exact ab,Bool.false_or,Bool.false_or]
  cases aE:order.contains x with
  | true=>rw [Sy aE];simp
  | false=>simp
theorem Sz {order:List Int} {x:Int} (h:order.contains x=false):placeOf order x=0:=by
 unfold placeOf;have aC:order.findIdx? (· == x)=none:=by
  rw [List.findIdx?_eq_none_iff];intro y ay;rw [beq_eq_false_iff_ne];rintro rfl;rw [List.contains_iff_mem.2 ay] at h;cases h
 rw [aC];rfl
theorem J5 (order:List Int) (x:Int):0≤placeOf order x∧placeOf order x≤order.length:=by
 unfold placeOf;cases ba:order.findIdx? (· == x) with
 | none=>exact ⟨by simp,by simp⟩
 | some i=>
  have:=(List.findIdx?_eq_some_iff_getElem.1 ba).1;simp;omega
structure lT (n:Nat) (order:List Int):Prop where
 nodup:order.Nodup
 lt:∀ x∈order,0≤x∧x<n
theorem lT.len {n:Nat} {order:List Int} (h:lT n order):order.length≤n:=by
 have ae:order ⊆ (List.range n).map (fun i:Nat=>(i:Int)):=fun x ab=>by
  have:=h.lt x ab;exact List.mem_map.2 ⟨x.toNat,List.mem_range.2 ai,by omega⟩
 have:=List.Nodup.length_le_of_subset h.nodup ae;simpa using this
def Down (N:List bC):Prop:=∀ (i:Nat) (x:bC),N[i]? = some x→x.atom≥0→(i:Int)<x.no∧x.no<N.length∧(i:Int)<x.yes∧x.yes<N.length
theorem yV {N:List bC} {k a:Nat} {order:List Int} {x:bC} (ab:N[a]? = some x):meet N (k+1) order a=if order.contains (a:Int) then order else (if x.atom≥0 then meet N k (meet N k order x.yes) x.no else order)++[(a:Int)]:=by
 rw [meet];simp only [Int.toNat_natCast,List.getD_eq_getElem?_getD,ab,Option.getD_some]
theorem lT.snoc {n:Nat} {order:List Int} (h:lT n order) {a:Nat} (aV:a<n) (aC:(a:Int)∉order):lT n (order++[(a:Int)]):=⟨by
 rw [List.nodup_append]
 refine ⟨h.nodup,by simp,fun x ab y ay=>?_⟩
 rw [List.mem_singleton.1 ay]
 rintro rfl
 exact aC ab,fun x ab=>by
 rcases List.mem_append.1 ab with ab|ab
 ·exact h.lt x ab
 ·rw [List.mem_singleton.1 ab];omega⟩
theorem qv {N:List bC} (dZ:Down N):∀ (k a:Nat),a<N.length→N.length-a≤k→∀ order:List Int,lT N.length order→lT N.length (meet N k order a)∧∀ y∈meet N k order a,y∈order∨(a:Int)≤y
  | 0,a,U,ae,_,_=>by omega
  | k+1,a,U,ae,order,ag=>by
    obtain ⟨x,ab⟩:∃ x,N[a]? = some x:=⟨_,List.getElem?_eq_getElem U⟩;rw [yV ab];cases aE:order.contains (a:Int) with
    | true=>rw [if_pos C];exact ⟨ag,fun y h => .inl h⟩
    | false=>
      rw [if_neg bn];have key:lT N.length (if x.atom≥0 then meet N k (meet N k order x.yes) x.no else order)∧∀ y∈(if x.atom≥0 then meet N k (meet N k order x.yes) x.no else order),y∈order∨(a:Int)<y:=by
        split
        · rename_i aV
          obtain ⟨d1,d2,d3,d4⟩:=dZ a x ab aV;obtain ⟨y,ay⟩:∃ y:Nat,x.yes=y:=⟨x.yes.toNat,by omega⟩;obtain ⟨z,bE⟩:∃ z:Nat,x.no=z:=⟨x.no.toNat,by omega⟩;rw [ay,bE];obtain ⟨yp,ct⟩:=qv dZ k y ai ai order ag;obtain ⟨uW,EV⟩:=qv dZ k z ai ai _ yp;refine ⟨uW,fun u hu=>?_⟩;rcases EV u hu with h|h
          · rcases ct u h with h|h
            · exact .inl h
            · exact .inr ai
          · exact .inr ai
        · exact ⟨ag,fun y h => .inl h⟩
      obtain ⟨cz,dj⟩:=key;refine ⟨cz.snoc U (fun hm=>?_),fun y ay=>?_⟩
      · rcases dj _ hm with h|h
        · rw [List.contains_iff_mem.2 h] at aE;cases aE
        · omega
      · rcases List.mem_append.1 ay with ay|ay
        · exact (dj y ay).imp id (fun h=>by omega)
        · rw [List.mem_singleton.1 ay];exact .inr (Int.le_refl _)
end Go.bY
namespace Go.Proofs.YtnafpeohfbglmaaGreat
open Go.bj Go.bY
def mZ (N:List bC) (an iu hD:Nat):ad := .func 110 [] [.bq [.map an] 0,.bq [.aA 4 (N.map de) .bd] 0,.ptr iu 0,.ptr hD 0]
def qw (N:List bC) (an iu hD:Nat) (num:List (ad×ad)) (order:List Int) (own:bU):a6:=
 [(.own iu,.box 163 [mZ N an iu hD]),(.own hD,.box 23 [.aA 1 (order.map bg) own]),(own,.row 3 1 order.length),(.own an,.map num)]
theorem SA (N:List bC) (aX:N.length≤1000) (dZ:Down N) (an iu hD:Nat):∀ (k a:Nat),a<N.length→N.length-a≤k→∀ (num:List (ad×ad)) (order path:List Int) (own:bU),oA num order path→lT N.length order→(∀ x∈path,x<a) →
    c2 Tryz.prog (mZ N an iu hD) [.int .i64 (a:Int)] (qw N an iu hD num order own) (fun o K=>∃ sR cZ,oA sR (meet N k order a) path∧o = .ret (.cl [])∧K=qw N an iu hD sR (meet N k order a) cZ):=by
  have k0:bt=1099511627776:=rfl;intro k
  induction k with
  | zero=>intro a U ae;omega
  | succ k a'=>
    intro a aV aD num order path own mT rO EW;have hlen:=rO.len;obtain ⟨x,ab,ch⟩:=cD (f:=de) aV;have kI:=yV (k:=k) (order:=order) ab;have js:=mT.get a;refine c2.eP (first:=[]) (cap:=[.bq [.map an] 0,.bq [.aA 4 (N.map de) .bd] 0,.ptr iu 0,.ptr hD 0]) ?_;refine bu.bp ak call110 Tryz.func110 C C fun s I=>?_
    unfold qw mZ at *;refine k3 ?_;cases aE:order.contains (a:Int) with
    | true=>
      rw [aE,if_pos C] at js;rw [aE,if_pos C] at kI;rw [kI];refine aa.ij ak I C C C C C C C C C C a1 C js C ?_;refine cC ?_;exact Fin.bH I C aR (au.all _) ⟨num,own,mT,rfl,rfl⟩
    | false=>
    have aN:path.contains (a:Int)=false:=by
      cases h:path.contains (a:Int) with
      | false=>rfl
      | true=>have:=EW _ (List.contains_iff_mem.1 h);omega
    rw [aE,if_neg bn,aN,if_neg bn] at js;rw [aE,if_neg bn] at kI;obtain ⟨J6,tP,J7⟩:=mT.enter aE;refine aa.ij ak I C C C C C C C C C C a1 C js C ?_;refine bP ?_;refine aa.lF ak I C C (.inl C) C C C C C C a1 C tP (fun I=>?_);unfold de fj at ch;refine fA ?_;refine af.tW (σ:=List (ad×ad)×bU) (fun _=>[(0,.int .i64 (a:Int)),(1,.bq [.map an] 0),(2,.bq [.aA 4 (N.map de) .bd] 0),(3,.ptr iu 0),(4,.ptr hD 0)]) (fun z=>qw N an iu hD z.1 (if x.atom≥0 then meet N k (meet N k order x.yes) x.no else order) z.2) (fun z=>oA z.1 (if x.atom≥0 then meet N k (meet N k order x.yes) x.no else order) ((a:Int)::path)) ?_ ?_
    · refine af.cond C (fun cU=>?_) (fun cU=>?_)
      · have cU:x.atom≥0:=by simpa using cU
        obtain ⟨d1,d2,d3,d4⟩:=dZ a x ab cU;obtain ⟨y,ay⟩:∃ y:Nat,x.yes=y:=⟨x.yes.toNat,by omega⟩;obtain ⟨z,bE⟩:∃ z:Nat,x.no=z:=⟨x.no.toNat,by omega⟩;rw [if_pos cU];simp only [ay,bE] at ch ⊢;have mF:=qv dZ k y ai ai order rO
        have i1:=a' y ai ai J6 order ((a:Int)::path) own J7 rO (fun p aN=>by
          rcases List.mem_cons.1 aN with rfl|aN
          · omega
          · have:=EW p aN;omega)
        have i2:=fun Bp mu h=>a' z ai ai Bp (meet N k order y) ((a:Int)::path) mu h mF.1 (fun p aN=>by
          rcases List.mem_cons.1 aN with rfl|aN
          · omega
          · have:=EW p aN;omega)
        refine rj I ?_;intro I;refine aM.fO rfl rfl rfl rfl rfl rfl rfl i1 I bM ?_ (fun _ _ h _=>by obtain ⟨_,_,_,h,_⟩:=h;cases h);rintro _ _ ⟨Bp,mu,Bq,⟨⟩,rfl⟩ I;simp only [List.nil_append,List.cons_append] at I ⊢;refine rj I ?_;intro I;refine aM.fO rfl rfl rfl rfl rfl rfl rfl (i2 Bp mu Bq) I bM ?_ (fun _ _ h _=>by obtain ⟨_,_,_,h,_⟩:=h;cases h);rintro _ _ ⟨Br,uX,sf,⟨⟩,rfl⟩ I;simp only [List.nil_append,List.cons_append] at I ⊢;skip;exact jN.mk (Br,uX) I sf (c3 C) (by simp only [qw,mZ];repeat (first|exact au.nil|(apply au.cons;· repeat (first|exact aP.here|apply aP.there))))
      · have cU:¬ x.atom≥0:=by simpa using cU
        rw [if_neg cU];refine gi ?_;exact jN.mk (J6,own) I J7 (c3 C) (by simp only [qw,mZ];repeat (first|exact au.nil|(apply au.cons;· repeat (first|exact aP.here|apply aP.there))))
    rintro ⟨Bp,mu⟩ Bq I;rw [kI];simp only at Bq I ⊢;generalize tJ:(if x.atom≥0 then meet N k (meet N k order x.yes) x.no else order)=order2 at *;have sE:lT N.length order2∧∀ y∈order2,y∈order∨(a:Int)<y:=by
      rw [← tJ];split
      · rename_i cU
        obtain ⟨d1,d2,d3,d4⟩:=dZ a x ab cU;obtain ⟨y,ay⟩:∃ y:Nat,x.yes=y:=⟨x.yes.toNat,by omega⟩;obtain ⟨z,bE⟩:∃ z:Nat,x.no=z:=⟨x.no.toNat,by omega⟩;rw [ay,bE];obtain ⟨yp,ct⟩:=qv dZ k y ai ai order rO;obtain ⟨uW,EV⟩:=qv dZ k z ai ai _ yp;refine ⟨uW,fun u hu=>?_⟩;rcases EV u hu with h|h
        · rcases ct u h with h|h
          · exact .inl h
          · exact .inr ai
        · exact .inr ai
      · exact ⟨rO,fun y h => .inl h⟩
    have uY:order2.contains (a:Int)=false:=by
      cases h:order2.contains (a:Int) with
      | false=>rfl
      | true=>
        rcases sE.2 _ (List.contains_iff_mem.1 h) with h|h
        · rw [List.contains_iff_mem.2 h] at aE;cases aE
        · omega
    have ev:=sE.1.len;obtain ⟨Br,sf,SB⟩:=Bq.leave uY;unfold qw mZ at I ⊢;refine cn I ?_;intro I;refine aa.lF ak I C C (.inl C) C C C C C C a1 C (by rw [List.length_map];exact sf) (fun I=>?_);refine cn I ?_;intro I;refine aa.iN ak I C C C C C C C eQ C C C C C C C C a1 k4 mK ai (fun ct I=>?_);refine cn I ?_;intro I;exact Fin.bH (K:=qw N an iu hD Br (order2++[(a:Int)]) (.own ct)) I C aR (by simp only [qw,mZ,List.map_append,List.map_cons,List.map_nil,List.length_append,List.length_cons,List.length_nil];exact bM) ⟨Br,.own ct,SB,rfl,rfl⟩
end Go.Proofs.YtnafpeohfbglmaaGreat
namespace Go.Proofs.YtnafpeohfbglmaaGreat
open Go.bj Go.bY
def sS (xs:List Int):Nat→List (Nat×Int)
 | 0=>[]
 | m+1=>(m,xs.getD m 0)::sS xs m
def EX (p:Nat×Int):ad := .int .i64 (p.1:Int)
def EY (p:Nat×Int):ad := .int .i64 p.2
theorem J8 (xs:List Int):∀ m,m≤xs.length→(sS xs m).map (·.2)=(xs.take m).reverse
  | 0,_=>by rw [sS,List.take_zero];rfl
  | m+1,h=>by
    obtain ⟨x,ab⟩:∃ x,xs[m]? = some x:=⟨_,List.getElem?_eq_getElem ai⟩;rw [sS,List.map_cons,J8 xs m ai,List.take_add_one,ab,List.reverse_append,List.getD_eq_getElem?_getD,ab];rfl
theorem SC (xs:List Int) (aI:xs.length<bt):DR Tryz.prog 152 [] [.bq [.aA 1 (xs.map bg) .bd] 0] [] EX EY (fun _=>True) (sS xs xs.length):=by
 have k0:bt=1099511627776:=rfl;intro l Go e6 fb nx K br;refine bu.bp ak call152 Tryz.func152 C C fun s I=>?_
 rw [List.nil_append] at I ⊢;have jc:((xs.map bg).length:Int)=(xs.length:Int):=by rw [List.length_map]
 have hw:IntKind.wrap .i64 ((xs.length:Int)-1)=(xs.length:Int)-1:=e0 ai ai;refine iO ?_;refine af.cT [0,1] C I (σ:=Nat×a6) (fun q=>[(3,.int .i64 ((q.1:Int)-1))]) (fun q=>q.2) (fun q=>q.1≤xs.length∧Go (sS xs q.1) q.2) (fun q=>q.1) (xs.length,K) ⟨Nat.le_refl _,br⟩ xR (au.all _) ?_;rintro ⟨j8,hN⟩ ⟨hm,df⟩ I;simp only at hm df I ⊢;cases j8 with
 | zero=>
  refine bP ?_;exact Fin.bH I C aR (au.all _) (.inl ⟨rfl,.inl df⟩)
 | succ m=>
 have nm:(((m+1:Nat):Int)-1)=(m:Int):=by omega
 simp only [nm];obtain ⟨x,ab,ch⟩:=cD (f:=bg) (show m<xs.length by omega);rw [sS,show xs.getD m 0=x by rw [List.getD_eq_getElem?_getD,ab];rfl] at df;have ay:=nx _ _ hN df;unfold EX EY at ay;unfold bg at ch;refine bP ?_;refine aa.fO C C C C C C ay I (au.all _) ?_ ?_
 ·rintro x aL (⟨⟨⟩,-,h⟩|⟨⟨⟩,h⟩|⟨_,⟨⟩,_⟩) I
  all_goals rw [List.append_nil] at I ⊢
  ·refine bP ?_
   exact bX.mk (m,aL) I ⟨by omega,h⟩ sj (au.all _) sG
  ·refine cC ?_
   exact Fin.bH I C aR (au.all _) (.inl ⟨rfl,.inr h⟩)
 ·rintro x aL (⟨h,_⟩|⟨h,_⟩|⟨v,⟨⟩,h⟩) I
  ·cases h
  ·cases h
  rw [List.append_nil] at I ⊢;exact Fin.eM I aR (au.all _) (.inr ⟨_,rfl,h⟩)
theorem SD (xs:List Int):a7 Tryz.prog 111 [bI xs] (.func 152 [] [.bq [.aA 1 (xs.map bg) .bd] 0]):=by
 have an:=bQ;refine a7.bp ak call111 Tryz.func111 C C fun s I=>?_
 unfold bI;refine nv ?_;exact bA I
end Go.Proofs.YtnafpeohfbglmaaGreat
namespace Go.bj
section
variable {J:aj→Prop} {P:Program} {Γ:cg} {N:Nat} {l:List Oper} {Q:b2→Env→aj→Prop} {env:Env} {s:aj} {m:Nat}
theorem bm.two {i j:Nat} {wH wI:Oper} {EZ E0:Nat} {E1 E2:ad} (dX:J s) (az:ed l.toArray m (idxs 0 l)=[i,j]) (ek:Nat.beq i j=false)
  (aY:l.toArray[i]? = some wH) (E3:wH.dst=some EZ) (SE:Nat.blt EZ N=true) (SF:guardOf l.toArray (bc env (looks l.toArray wH)) wH=some true) (SG:aU P N wH (bc env (looks l.toArray wH)) s (fun x ah=>x=E1∧ah=s) (fun _ _=>False))
  (aS:l.toArray[j]? = some wI) (E4:wI.dst=some E0) (SH:Nat.blt E0 N=true) (SI:guardOf l.toArray (bc env (looks l.toArray wI)) wI=some true) (SJ:aU P N wI (bc env (looks l.toArray wI)) s (fun x ah=>x=E2∧ah=s) (fun _ _=>False))
  (q':bm J P Γ N l.toArray Q (bR (m|||2^i)) ((EZ,E1)::env) s) (SK:bm J P Γ N l.toArray Q (bR (m|||2^j)) ((E0,E2)::env) s):bm J P Γ N l.toArray Q (bR m) env s:=by
 have cB:i≠j:=fun e=>by subst e;rw [show Nat.beq i i=true from Nat.beq_refl i] at ek;cases ek
 have fq:∀ k,gh l.toArray (bR m) k→k=i∨k=j:=fun k aD=>by
  have:=xG aD (l:=idxs 0 l) (by rw [vD,List.mem_range'_1];have:=aD.1;simp at this;omega);rw [az] at this;simpa using this
 have h3:gh l.toArray (bR m) i:=by
  have gA:i∈ed l.toArray m (idxs 0 l):=by rw [az];exact List.mem_cons_self ..
  have:∀ is,i∈ed l.toArray m is→hJ l.toArray m i=true:=by
   intro is
   induction is with
   | nil=>intro h;cases h
   | cons j is a'=>
    intro h;simp only [ed] at h;split at h
    ·rename_i an
     rcases List.mem_cons.1 h with rfl|h
     ·exact an
     ·exact a' h
    ·exact a' h
  exact rb.1 (this _ gA)
 refine bm.split (fun k x ah=>(k=i→x=E1)∧(k=j→x=E2)∧ah=s) (fun _ _ _=>False) ⟨i,h3.1,h3.2.1⟩ (fun k o' aD ck=>?_) (fun k o' aD ck x ah br => .inl (by rw [br.2.2];exact dX)) (fun k o' cM aD ck cb x ah br=>?_) (fun k o' aD ck cb x ah br=>?_) (fun k o' aD ck x ah fZ=>fZ.elim)
 ·rcases fq k aD with rfl|rfl
  ·rw [aY] at ck;cases ck
   exact ⟨SF,SG.mono (fun x ah h=>⟨fun _=>h.1,fun e=>absurd e cB,h.2⟩) (fun _ _ h=>h),fun cM cb=>by rw [E3] at cb;cases cb;simpa [Nat.blt_eq] using SE⟩
  ·rw [aS] at ck;cases ck
   exact ⟨SI,SJ.mono (fun x ah h=>⟨fun e=>absurd e.symm cB,fun _=>h.1,h.2⟩) (fun _ _ h=>h),fun cM cb=>by rw [E4] at cb;cases cb;simpa [Nat.blt_eq] using SH⟩
 ·obtain ⟨U,ae,rfl⟩:=br
  rcases fq k aD with rfl|rfl
  ·rw [aY] at ck;cases ck
   rw [E3] at cb;cases cb;rw [np,U C];exact q'
  ·rw [aS] at ck;cases ck
   rw [E4] at cb;cases cb;rw [np,ae C];exact SK
 ·rcases fq k aD with rfl|rfl
  ·rw [aY] at ck;cases ck
   rw [E3] at cb;cases cb
  ·rw [aS] at ck;cases ck
   rw [E4] at cb;cases cb
theorem bm.E5 {L R:a6} (i:Nat) (aO:bL P Γ) (I:Ok s L) (dX:J (aQ s L)) {o:Oper} {d:Nat} {t T:TypeId} {x:Operand} {dm:bJ} {b off:Nat} {cs:List ad} {v:ad} (az:ed l.toArray m (idxs 0 l)=[i]) (ag:l.toArray[i]? = some o) (ar:o.dst=some d) (aX:Nat.blt d N=true)
  (ao:guardOf l.toArray (bc env (looks l.toArray o)) o=some true) (bW:o.op = .load t x) (aK:Γ.get? t=some dm) (ab:aJ (bc env (looks l.toArray o)) x=some (.ptr b off)) (aw:aP L (.own b) (.box T cs) R) (av:gI dm cs off=some v)
  (h:bm J P Γ N l.toArray Q (bR (m|||2^i)) ((d,v)::env) (aQ s L)):bm J P Γ N l.toArray Q (bR m) env (aQ s L):=
 bm.one az ag ar aX ao (aU.dS aO I bW aK ab aw av (X:=fun _ _=>False)) (fun x ah ⟨_,ae⟩ => .inl (by rw [ae];exact dX)) (fun x ah ⟨U,ae⟩=>by subst U;subst ae;exact h) (fun _ _ h=>h.elim)
theorem bm.J9 (i:Nat) (aO:bL P Γ) (dX:J s) {o:Oper} {d:Nat} {t ds ew:TypeId} {x y:Operand} {ok:Bool} {it fN aB:bJ} {b:Nat} {es:List (ad×ad)} {k z:ad} {r:Option ad} (az:hJ l.toArray m i=true) (ag:l.toArray[i]? = some o) (ar:o.dst=some d) (aX:Nat.blt d N=true)
  (ao:guardOf l.toArray (bc env (looks l.toArray o)) o=some true) (bW:o.op = .lookup t x y ok) (aK:Γ.get? t=some it) (bo:it.bz = .map ds ew) (ie:Γ.get? ds=some fN) (bF:Γ.get? ew=some aB) (ab:aJ (bc env (looks l.toArray o)) x=some (.map b)) (ay:aJ (bc env (looks l.toArray o)) y=some k)
  (aw:∀ s,J s→s b=some (.map es)) (ba:iZ fN.bz k=true) (qV:h1 es k=some r) (bE:gy aB.zero=some z)
  (h:bm J P Γ N l.toArray Q (bR (m|||2^i)) ((d,ko ok z r)::env) s):bm J P Γ N l.toArray Q (bR m) env s:=
 bm.pY dX az ag ar aX ao (fun s gY=>aU.lookup aO bW aK bo ie bF ab ay (.inl ⟨b,rfl,aw s gY⟩) ba qV bE) h
end
end Go.bj
namespace Go.bj
theorem J' {w:World} {p:bN}:∀ {yss:List (List ad)} {us:List Value},bO w p us (yss.map ad.agg)→bO w p (flat us) yss.flatten
  | [],us,h=>by cases h;exact .nil
  | c::r,us,h=>by
    cases h with
    | cons u _ tu _ hu aK=>
    cases hu with
    | agg cs _ aE=>
    have:=J' aK;rw [List.flatten_cons,show flat (Value.agg cs::tu)=cs.toList++flat tu by simp [flat,Value.cells]];exact bO.append aE this
section
variable {P:Program} {Γ:cg} {N:Nat} {ops:Array Oper} {Q:b2→Env→aj→Prop} {env:Env} {s:aj} {l:List Oper} {o:Oper} {d:Nat} {L R:a6}
theorem SL (aO:bL P Γ) {w:World} {p:bN} {S:aj} (b6:c0 w p S) {t bG e ty:TypeId} {it cp aB:bJ} {bV sz:Nat} {olds:List Value} {xs:List ad} {yss:List (List ad)} {dh:bU} {base:Option Addr} {n cap:Nat} {o7:Value}
  (aK:Γ.get? t=some it) (bo:it.bz = .aA e) (cS:Γ.get? bG=some cp) (dp:∀ k,cp.bz ≠ .int k) (bF:Γ.get? e=some aB) (U:aB.size=sz) (dJ:Nat.beq aB.zero.cells.size aB.size=true)
  (az:bO w p olds xs) (aC:n*sz=xs.length) (qY:(Builtin.firstCells sz n (.slice base n cap)).run P w.drew = .ok olds.toArray w.drew) (ay:Rel w p o7 (.aA bV (yss.map ad.agg) dh)) (cY:bV=sz) (gN:∀ c∈yss,c.length=sz)
  (aG:cap<n+yss.length) (an:(n+yss.length)*aB.bytes≤140737488355328) (dY:n+yss.length≤9223372036854775807) :
  ∃ aT b' cs' w',(Builtin.append_ #[t,bG] ty #[.slice base n cap,o7]).run P w = .ok (.slice (some ⟨aT,0,none⟩) (n+yss.length) b') w'∧S aT=none∧cV w p w' p∧Kept S (S.set aT (.box e cs')) w p w' p∧c0 w' p (S.set aT (.box e cs')) ∧
   cs'.length=b'*sz∧n+yss.length≤b'∧cs'.take ((n+yss.length)*sz)=xs++yss.flatten:=by
 obtain ⟨info,d,g1,g2,g3,-⟩:=aO.parts aK;obtain ⟨ln,cM,dD,c1,dn,-⟩:=aO.parts cS;obtain ⟨iH,jq,cz,dj,ft,ej,kW,kX⟩:=aO.parts bF;have ar:d = .slice e:=by rw [bo] at g3;cases d<;>simp [dP] at g3;rw [g3]
 subst ar;have cb:∀ k,cM ≠ .int k:=fun k e'=>by subst e';exact dp k dn.symm
 obtain ⟨us,hs,nX,iI,i',q0,q1,q2⟩:=oV ay (.inr cY);rw [List.length_map] at iI i';subst cY;have rL:bO w p (flat us) yss.flatten:=J' hs;have lu:=rL.length;have eU:=growslice_fits (need:=n+yss.length) (old:=cap) (bytes:=aB.bytes) aG an;have cx:=xt (ty:=ty) w g2 c1 cb cz kX (base:=base) (sLen:=n) (sCap:=cap) (m:=yss.length) (olds:=olds) (news:=flat us) (iI P)
  (by rw [ej,U];exact qY) (by rw [ej,U];exact i' P w.drew (fun _ _ _=>rfl)) aG ai (by rw [kW];exact eU)
 have l7:n+yss.length≤grownCap w (n+yss.length) cap e:=by simp [grownCap,Question.cut]
 have gC:olds.length=n*bV:=by rw [az.length,aC]
 have nd:=Nat.eq_of_beq_eq_true dJ;generalize qZ:(Builtin.zeroCells aB.zero.cells (grownCap w (n+yss.length) cap e-(n+yss.length))).toList=a1 at cx;have lv:a1.length=(grownCap w (n+yss.length) cap e-(n+yss.length))*bV:=by
  rw [← qZ,JO,nd,U]
 generalize grownCap w (n+yss.length) cap e=G at cx l7 lv;have ud:=vo b6
 obtain ⟨aw,hle,aD,jM⟩:=pP ud (.cells (olds++flat us++a1).toArray e (0,0)) (.box e (xs++yss.flatten++a1.map fun _ => .any)) (fun w' hS av fa=>⟨_,hS,by
  refine bO.append (bO.append (fa _ _ (show bO w.drew p olds xs from az.mono jH)) (fa _ _ (rL.mono jH))) (bO.xU a1),fun o aN=>absurd (b6.lt _ _ aN) (by show ¬ w.heap.size<w.heap.size;omega)⟩)
 rw [show w.drew.heap.size=w.heap.size from rfl] at aw aD jM;have hm:(n+yss.length)*bV=n*bV+yss.length*bV:=Nat.add_mul ..;have jm:=Sa gN;refine ⟨w.heap.size,G,xs++yss.flatten++a1.map (fun _=>ad.any),_,cx,aw,jH.trans hle,(ti (w:=w) (p:=p)).trans (jH (w:=w) (p:=p)).size aD,jM,?_,l7,?_⟩
 ·simp only [List.length_append,List.length_map,lv]
  rw [← aC,jm,← hm,← Nat.add_mul];congr 1;omega
 ·rw [List.take_append_of_le_length (by rw [List.length_append,jm];omega),List.take_of_length_le (by rw [List.length_append,jm];omega)]
theorem aU.Bs (aO:bL P Γ) (I:Ok s L) {t bG e:TypeId} {x y:Operand} {it cp aB:bJ} {dL bV sz:Nat} {yss:List (List ad)} {dh:bU}
    (ag:o.op = .call { callee := .builtin .append,args := #[x,y],argTypes := #[t,bG] }) (aK:Γ.get? t=some it) (bo:it.bz = .aA e) (cS:Γ.get? bG=some cp) (dp:∀ k,cp.bz ≠ .int k)
    (bF:Γ.get? e=some aB) (U:aB.size=sz) (dJ:Nat.beq aB.zero.cells.size aB.size=true) (ab:aJ env x=some (.aA dL [] .clip)) (ay:aJ env y=some (.aA bV (yss.map ad.agg) dh)) (cY:bV=sz) (gN:∀ c∈yss,c.length=sz) (cB:1≤yss.length) (an:yss.length*aB.bytes≤140737488355328) (dY:yss.length≤9223372036854775807)
    {X:ad→aj→Prop}:aU P N o env (aQ s L) (fun r ah=>EE s L e sz yss.length yss.flatten r ah) X:=by
  refine aU.jo h6 fun ro B a w p aF=>?_
  have fw:=aF.aJ ab;have eV:=aF.aJ ay;have ei:=fun val w'=>sk (P:=P) (a:=a) (val:=val) (w:=w) (w':=w') ag
  generalize dQ:a.eval x=dr at fw ei;generalize eO:a.eval y=fp at eV ei;have rn:∃ base,dr = .slice base 0 0:=by
    cases fw with
    | gU=>exact ⟨_,rfl⟩
    | hE a _ _ h=>exact ⟨_,rfl⟩
    | aA g off n cap _ vs _ _ aC aI aE az aw hm aD cE ag=>
      have U:n=0:=aI;have ae:=cE C;subst U;subst ae;exact ⟨_,rfl⟩
  obtain ⟨base,rfl⟩:=rn
  obtain ⟨aT,b',cs',w',eE,e9,fH,h2,kY,kZ,lI,lJ⟩:=SL (ty:=o.type) aO aF.wf (base:=base) (n:=0) (cap:=0) (olds:=[]) (xs:=[]) aK bo cS dp bF U dJ .nil bn (by
    cases base with
    | none=>
      have:=run_firstCells_none (P:=P) w.drew sz 0 0 0
      simpa using this
    | some a=>exact run_firstCells_some w.drew sz 0 a _ _ [] bn bn) eV cY gN ai (by simpa using an) ai
  rw [Nat.zero_add] at eE lI lJ;exact ⟨_,w',_,p,_,ei _ _ eE,fH,h2,kY,⟨aT,b',cs',rfl,rfl,⟨e9,I⟩,kZ,lI,by simpa using lJ⟩,.gx _⟩
theorem aa.Bs (aO:bL P Γ) (I:Ok s L) {t bG e:TypeId} {x y:Operand} {it cp aB:bJ} {dL bV sz:Nat} {yss:List (List ad)} {dh:bU} (ao:guardOf ops env o=some true) (ar:o.dst=some d) (aX:Nat.blt d N=true)
  (ag:o.op = .call { callee := .builtin .append,args := #[x,y],argTypes := #[t,bG] }) (aK:Γ.get? t=some it) (bo:it.bz = .aA e) (cS:Γ.get? bG=some cp) (dp:∀ k,cp.bz ≠ .int k)
  (bF:Γ.get? e=some aB) (U:aB.size=sz) (dJ:Nat.beq aB.zero.cells.size aB.size=true) (ab:aJ env x=some (.aA dL [] .clip)) (ay:aJ env y=some (.aA bV (yss.map ad.agg) dh)) (cY:bV=sz) (gN:∀ c∈yss,c.length=sz) (cB:1≤yss.length) (an:yss.length*aB.bytes≤140737488355328) (dY:yss.length≤9223372036854775807)
  (h:∀ aT b' cs',cs'.length=b'*sz→yss.length≤b'→cs'.take (yss.length*sz)=yss.flatten→Ok s ((.own aT,.box e cs')::L)→aa P N ops l Q ((d,dG aT yss.length b')::env) (aQ s ((.own aT,.box e cs')::L))):aa P N ops (o::l) Q env (aQ s L):=by
 refine aa.op ao ar aX (aU.Bs aO I ag aK bo cS dp bF U dJ ab ay cY gN cB an dY (X:=fun _ _=>False)) ?_ (fun _ _ h=>h.elim);rintro r ah ⟨aT,b',cs',rfl,rfl,ae,al,bl,bD⟩;exact h aT b' cs' al bl bD ae
end
end Go.bj
namespace Go.Proofs.YtnafpeohfbglmaaGreat
open Go.bj Go.bY
theorem wJ (g:List bC):g.map de=(g.map fj).map ad.agg:=by rw [List.map_map];rfl
theorem SM (g:List bC) (own:bU) (U:1≤g.length) (aI:g.length≤1000):bu Tryz.prog 109 [.aA 4 (g.map de) own] [] (fun o K=>∃ b cap cs,qq (some (b,cap,cs)) g∧o = .ret (dG b g.length cap)∧K=[(.own b,.box 69 cs)]):=by
 refine bu.bp ak call109 Tryz.func109 C C fun s I=>?_
 refine dF ?_;refine aa.op C C C (aU.AS ak C C C C (X:=fun _ _=>False)) ?_ (fun _ _ h=>False.elim h);rintro r ah ⟨rfl,⟨rfl,aC⟩|rfl⟩
 ·have:g=[]:=List.map_eq_nil_iff.1 aC
  rw [this] at U;simp at U
 ·refine bP ?_
  refine aa.Bs ak I (yss:=g.map fj) C C C C C C C eQ C C C C (by rw [← wJ];rfl) C (kh g) rk (by rw [List.length_map];show _*48≤_;omega) nL (fun dk eI eA cr cJ dW I=>?_);refine dO ?_;exact Fin.bH I C (a8.of_eq (by rw [List.length_map])) bM ⟨dk,eI,eA,⟨cr,by simpa using cJ,by simpa using dW⟩,rfl,rfl⟩
theorem Ka (g:List bC):(e4 g g.length).map bg=List.replicate g.length (.int .i64 0):=by
 unfold e4;rw [List.drop_length,b4,List.append_nil,List.map_replicate];rfl
theorem Kb (g:List bC):hX g g.length=g:=by
 unfold hX;rw [List.drop_length,b4,List.append_nil,List.take_length]
def pC (N:List bC) (an hD iu uZ cQ:Nat) (order:List Int) (num:List (ad×ad)) (one:List Int) (own:bU) (bw:wE) (done:List bC):a6:=[(.own uZ,.box 28 [hl bw done]),(.own hD,.box 23 [.aA 1 (order.map bg) .bd]),(.own iu,.box 163 [mZ N an iu hD]),(own,.row 3 1 order.length),(.own an,.map num),(.own cQ,.box 3 (one.map bg))]++gm bw
def hY (N:List bC) (order:List Int) (eo:Int):bC:=let x:=N.getD eo.toNat default
 if x.atom≥0 then { x with no:=(order.length:Int)-1-placeOf order x.no,yes:=(order.length:Int)-1-placeOf order x.yes } else x
def E6 (hD an pD:Nat) (order:List Int) (num:List (ad×ad)) (x:bC) (ah:aj):Prop:=ah hD=some (.box 23 [.aA 1 (order.map bg) .bd])∧ah an=some (.map num)∧∃ v,ah pD=some (.box 69 [.int .i64 x.atom,v,.int .i64 x.yes,.aA 1 (x.ms.map bg) .bd])
def m0 (g:List bC) (pB ki cQ cap m:Nat) (cs:List ad):a6:=[(.own pB,.box 28 [dG ki g.length cap]),(.own ki,.box 69 cs),(.own cQ,.box 3 ((e4 g m).map bg))]
theorem Kc (g:List bC) (ao:oz g):bu Tryz.prog 63 [.aA 4 (g.map de) .bd] [] (fun o K=>o = .ret (.aA 4 ((small g).map de) .bd)∧K=[]):=by
  have k0:bt=1099511627776:=rfl;have nI:=ao.pos;have la:=ao.len;have cE:=SM g .bd ao.pos ao.len;refine bu.bp ak call63 Tryz.func63 C C fun s I=>?_
  refine cy ?_;refine aa.su ak I (g.map de).length C C C C C C C C C C C C (by rw [List.length_map];show _*8≤_;omega) nL (fun cQ I=>?_);refine gB ?_;refine aa.b0 rfl rfl rfl rfl rfl cE I .nil ?_ (fun _ _ ⟨_,_,_,_,h,_⟩ _=>by cases h);rintro _ _ ⟨ki,cap,Bt,E7,⟨⟩,rfl⟩ I;simp only [List.length_map,List.cons_append,List.nil_append] at I ⊢
  repeat (first|(refine OQ I ?_;clear I;intro I)|refine aa.dE ak I rfl rfl rfl rfl rfl rfl rfl (fun cv I=>?_))
  obtain ⟨pB,rfl⟩:∃ x,x=cv:=⟨_,rfl⟩;have h0:=Ka g;have jc:((g.map de).length:Int)=(g.length:Int):=by rw [List.length_map]
  have hw:IntKind.wrap .i64 ((g.length:Int)-1)=(g.length:Int)-1:=e0 ai ai;refine af.cT [0,3,4] C I (σ:=Nat×List ad) (fun q=>[(5,.int .i64 ((q.1:Int)-1))]) (fun q=>m0 g pB ki cQ cap q.1 q.2) (fun q=>q.1≤g.length∧qq (some (ki,cap,q.2)) (hX g q.1)) (fun q=>q.1) (g.length,Bt) ⟨Nat.le_refl _,by rw [Kb];exact E7⟩ xR (by unfold m0;simp only [h0];exact bM) ?_;rintro ⟨j8,cs⟩ ⟨hm,fc⟩ I;simp only at hm fc I ⊢;cases j8 with
  | zero=>
    have SN:hX g 0=(b4 0 g).2:=by unfold hX;simp
    have E8:e4 g 0=(b4 0 g).1:=by unfold e4;simp
    obtain ⟨wK,qx⟩:=mw g 0;have nT:=EO (n:=g.length) g 0 ai (fun k x ab aV=>by have:=ao.eo k x ab aV;rw [Nat.zero_add];exact this);have qy:Down (b4 0 g).2:=fun i x ab aV=>by
      have ql:=(List.getElem?_eq_some_iff.1 ab).1;have:=(nT i ai).2.2.2;rw [List.getD_eq_getElem?_getD,ab] at this;have:=this aV;simp only [Option.getD_some] at this;omega
    obtain ⟨yW,Kd⟩:∃ yW,(b4 0 g).1[0]? = some yW:=⟨_,List.getElem?_eq_getElem ai⟩;have Ke:(b4 0 g).1.getD 0 0=yW:=by rw [List.getD_eq_getElem?_getD,Kd];rfl
    have E9:=(nT 0 ai).1;rw [Ke] at E9;obtain ⟨a0,rfl⟩:∃ a:Nat,yW=a:=⟨yW.toNat,by omega⟩;have rP:small g=(meet (b4 0 g).2 (g.length+1) [] a0).reverse.map fun eo=>
        let x:=(b4 0 g).2.getD eo.toNat default
        if x.atom≥0 then { x with no:=((meet (b4 0 g).2 (g.length+1) [] a0).length:Int)-1-placeOf (meet (b4 0 g).2 (g.length+1) [] a0) x.no,yes:=((meet (b4 0 g).2 (g.length+1) [] a0).length:Int)-1-placeOf (meet (b4 0 g).2 (g.length+1) [] a0) x.yes } else x:=by
      unfold small;simp only [Ke]
    have h5:∀ x∈(b4 0 g).2,x.ms.length≤16:=fun x ab=>by
      obtain ⟨k,aD⟩:=List.getElem?_of_mem ab;obtain ⟨w,jT,sT⟩:=yU g 0 k x aD;rw [sT];exact ao.ms w jT
    have u0:lT (b4 0 g).2.length []:=⟨List.nodup_nil,fun _ h=>by cases h⟩;have SO:=SA (b4 0 g).2 ai qy;have oB:=(qv qy (g.length+1) a0 ai ai [] u0).1;have SP:((b4 0 g).1.map bg)[0*1]? = some (.int .i64 ((a0:Nat):Int)):=by rw [Nat.zero_mul,List.getElem?_map,Kd];rfl
    unfold m0 at I ⊢;rw [E8] at I ⊢;rw [SN] at fc;generalize (b4 0 g).1=one at *;generalize (b4 0 g).2=N at *;obtain ⟨qX,oU,Kf⟩:=fc;rw [qx] at oU Kf;refine af.yP I 0 .here .here C Kf (by rw [List.length_map,qx]) (kh _) oU ai (fun I=>?_);simp only [List.set_cons_zero,← wJ] at I ⊢;refine af.lG I 4 pB C .here (fun I=>?_);refine cH ?_;refine aa.pZ I C C C C (fun an I=>?_);refine aa.Aw ak C C C C C C C (fun _=>rfl) C C (fun _=>rfl) C C C C ?_
    repeat (first|(refine OR I ?_;clear I;intro I)|refine aa.dE ak I rfl rfl rfl rfl rfl rfl rfl (fun cv I=>?_))
    rename_i hD _;obtain ⟨iu,rfl⟩:∃ x,x=cv:=⟨_,rfl⟩;refine af.kz I 3 1 0 fun I=>?_
    refine af.py I [.aA 1 [] .nil] (kb:=hD) a1 (.one (a8.nil jO)) (fun I=>?_);have h7:=SO an iu hD (g.length+1) a0 ai ai [] [] [] .nil oA.empty u0 (fun _ h=>by cases h);unfold qw mZ at h7;refine rj I ?_;intro I;refine aM.e7 ak 0 C C C C C C C C C C ai ?_;refine aM.kE ak I C C C C C C a1 C SP ?_;skip;refine aM.fO rfl rfl rfl rfl rfl rfl rfl h7 I bM ?_ (fun _ _ h _=>by obtain ⟨_,_,_,h,_⟩:=h;cases h);rintro _ _ ⟨num,own,mT,⟨⟩,rfl⟩ I;simp only [List.nil_append,List.cons_append] at I ⊢;generalize meet N (g.length+1) [] a0=order at *;have hlen:=oB.len;refine Dn ?_;refine af.py I [.aA 1 (order.map bg) .bd] (kb:=hD) a1 (.one a8.bd) (fun I=>?_);have SQ:=SD order;unfold bI at SQ
    repeat (first|(refine OS I ?_;clear I;intro I)|refine aa.dE ak I rfl rfl rfl rfl rfl rfl rfl (fun cv I=>?_)|(refine nw ?_))
    obtain ⟨uZ,rfl⟩:∃ x,x=cv:=⟨_,rfl⟩
    rw [show (fun eo:Int=>let x:=N.getD eo.toNat default
        if x.atom≥0 then ({ x with no:=(order.length:Int)-1-placeOf order x.no,yes:=(order.length:Int)-1-placeOf order x.yes }:bC) else x)=hY N order from rfl] at rP
    have tw:=J8 order order.length (Nat.le_refl _);rw [List.take_length] at tw;have jE:(sS order order.length).length=order.length:=by
      have:=congrArg List.length tw;rwa [List.length_map,List.length_reverse] at this
    have ev:∀ z:Int,ko false (.int .i64 0) (if order.contains z then some (.int .i64 (placeOf order z)) else if ([]:List Int).contains z then some (.int .i64 (-1)) else none) = .int .i64 (placeOf order z):=fun z=>by
      cases aE:order.contains z with
      | true=>rfl
      | false=>rw [Sz aE];rfl
    refine af.Ie I C dd dd (SC order ai) .nil (fun rem K=>∃ bw done,qq bw done∧done.length+rem.length=order.length∧order.reverse.map (hY N order)=done++rem.map (fun q=>hY N order q.2)∧(∀ q∈rem,0≤q.2∧q.2<N.length)∧K=pC N an hD iu uZ cQ order num one own bw done) (fun _ _=>False) (fun _ _=>False) ⟨none,[],rfl,by rw [jE];simp,by rw [← tw,List.map_map];rfl,(fun q bs=>by
      have:q.2∈order.reverse:=by rw [← tw];exact List.mem_map_of_mem bs
      exact oB.lt _ (List.mem_reverse.1 this)),rfl⟩ ?_ ?_ (fun _ _ h=>h.elim) (fun _ _ h=>h.elim)
    · rintro s₁ ⟨Xj,eo⟩ rem K ⟨bw,done,dy,nD,lk,oC,rfl⟩ I
      have SR:=oC _ List.mem_cons_self;simp only at SR;obtain ⟨a,rfl⟩:∃ a:Nat,eo=a:=⟨eo.toNat,by omega⟩;obtain ⟨x,ab,ch⟩:=cD (f:=de) (l:=N) (show a<N.length by omega);have m1:hY N order a=if x.atom≥0 then { x with no:=(order.length:Int)-1-placeOf order x.no,yes:=(order.length:Int)-1-placeOf order x.yes } else x:=by
        unfold hY;simp only [Int.toNat_natCast,List.getD_eq_getElem?_getD,ab,Option.getD_some]
      rw [List.map_cons,List.length_cons] at *;have cE:=yk x.ms .bd (by have:=h5 x (List.mem_of_getElem? ab);omega);have Kg:=J5 order x.no;have Xk:=J5 order x.yes;unfold de fj bI at ch;unfold EX EY;unfold pC mZ at I ⊢;simp only [List.cons_append,List.nil_append] at I ⊢;have q7:=ev x.no;have E':=ev x.yes;have Kh:=mT.get x.no;have Ki:=mT.get x.yes;generalize (if order.contains x.no then some (ad.int .i64 (placeOf order x.no)) else if ([]:List Int).contains x.no then some (ad.int .i64 (-1)) else none)=Xl at q7 Kh;generalize (if order.contains x.yes then some (ad.int .i64 (placeOf order x.yes)) else if ([]:List Int).contains x.yes then some (ad.int .i64 (-1)) else none)=Xm at E' Ki;by_cases cU:x.atom≥0
      · rw [if_pos cU] at m1
        have b8:IntKind.wrap .i64 (IntKind.wrap .i64 ((order.length:Int)-1)-placeOf order x.no)=(order.length:Int)-1-placeOf order x.no:=by
          rw [e0 (n:=(order.length:Int)-1) ai ai,e0 ai ai]
        have bZ:IntKind.wrap .i64 (IntKind.wrap .i64 ((order.length:Int)-1)-placeOf order x.yes)=(order.length:Int)-1-placeOf order x.yes:=by
          rw [e0 (n:=(order.length:Int)-1) ai ai,e0 ai ai]
        repeat (first|(refine Hv I ?_;clear I;intro I)|refine aa.dE ak I rfl rfl rfl rfl rfl rfl rfl (fun cv I=>?_)|(refine nw ?_))
        refine af.cond C (fun _=>?_) (fun h=>absurd cU gn);skip;obtain ⟨pD,rfl⟩:∃ x,x=cv:=⟨_,rfl⟩;have pE:=(⟨aP.get a1 I,aP.get a1 I,.int .i64 x.no,aP.get a1 I⟩:E6 hD an pD order num x _);refine af.o3 (E6 hD an pD order num x) ak mixed C (bm.run pE C ?_);refine bm.mI 0 ak pE C C C C C C C C (fun _ h=>h.1) b3 ?_;refine bm.mI 8 ak pE C C C C C C C C (fun _ h=>h.1) b3 ?_;refine bm.Pd 13 ak pE rfl rfl rfl rfl rfl rfl rfl rfl (fun _ h=>by obtain ⟨_,_,v,h⟩:=h;exact ⟨_,_,h,rfl⟩) ?_;refine bm.run pE C ?_;refine bm.J9 14 ak pE C C C C C C C C C C C C (fun _ h=>h.2.1) C Ki C ?_;rw [E'];refine bm.run pE C ?_;refine bm.E5 5 ak I pE C C C C C C C C a1 b3 ?_;refine bm.run pE C ?_;refine bm.J9 6 ak pE C C C C C C C C C C C C (fun _ h=>h.2.1) C Kh C ?_;rw [q7];refine bm.run pE C ?_;refine bm.cF 17 ak I C C C C C C C C C C C a1 C (fun I => .inl ⟨aP.get a1 I,aP.get a1 I,_,aP.get a1 I⟩) (fun I=>?_);refine bm.run (⟨aP.get a1 I,aP.get a1 I,_,aP.get a1 I⟩:E6 hD an pD order num x _) C ?_;refine bm.cF 19 ak I C C C C C C C C C C C a1 C (fun _ => .inr C) (fun I=>?_);refine bf.done C ?_;rcases bw with _|⟨g2,eI,eA⟩
        · have bB:done=[]:=dy
          subst bB;unfold hl gm at I ⊢;refine cn I ?_;intro I;refine aa.ow ak I C C C C C C C eQ C C C C C C C dd (fun dk eI eA cr cJ dW I=>?_);refine cn I ?_;intro I;exact At.mk (pC N an hD iu uZ cQ order num one own (some (dk,eI,eA)) ([]++[hY N order a])) I (by simp only [pC,gm,hl,mZ,List.cons_append,List.nil_append,List.length_append,List.length_cons,List.length_nil];repeat (first|exact au.nil|(apply au.cons;· repeat (first|exact aP.here|apply aP.there)))) ⟨trivial,some (dk,eI,eA),[]++[hY N order a],⟨cr,ot,by rw [qs,m1];refine dW.trans ?_;rw [← b8,← bZ,List.length_map];rfl⟩,by simp at nD ⊢;omega,by rw [lk];simp,fun q bs=>oC q (List.mem_cons_of_mem _ bs),rfl⟩
        · obtain ⟨eE,e9,fH⟩:=dy
          unfold hl gm at I ⊢;refine cn I ?_;intro I;refine aa.ox ak I C C C C C C C eQ C C C C a1 eE e9 C C C C A7 ai (fun dk eI eA cr cJ dW I=>?_);refine cn I ?_;intro I;exact At.mk (pC N an hD iu uZ cQ order num one own (some (dk,eI,eA)) (done++[hY N order a])) I (by simp only [pC,gm,hl,mZ,List.cons_append,List.nil_append,List.length_append,List.length_cons,List.length_nil];repeat (first|exact au.nil|(apply au.cons;· repeat (first|exact aP.here|apply aP.there)))) ⟨trivial,some (dk,eI,eA),done++[hY N order a],⟨cr,ot,by rw [qs,m1,List.length_append,List.length_cons,List.length_nil,← fH];refine dW.trans ?_;rw [← b8,← bZ,List.length_map];rfl⟩,by simp at nD ⊢;omega,by rw [lk];simp,fun q bs=>oC q (List.mem_cons_of_mem _ bs),rfl⟩
      · rw [if_neg cU] at m1
        repeat (first|(refine Hv I ?_;clear I;intro I)|refine aa.dE ak I rfl rfl rfl rfl rfl rfl rfl (fun cv I=>?_)|(refine nw ?_))
        refine af.cond C (fun h=>absurd gn cU) (fun _=>?_);refine cn I ?_;intro I;rcases bw with _|⟨g2,eI,eA⟩
        · have bB:done=[]:=dy
          subst bB;unfold hl gm at I ⊢;skip;refine aa.ow ak I C C C C C C C eQ C C C C C C C dd (fun dk eI eA cr cJ dW I=>?_);refine cn I ?_;intro I;exact At.mk (pC N an hD iu uZ cQ order num one own (some (dk,eI,eA)) ([]++[hY N order a])) I (by simp only [pC,gm,hl,mZ,List.cons_append,List.nil_append,List.length_append,List.length_cons,List.length_nil];repeat (first|exact au.nil|(apply au.cons;· repeat (first|exact aP.here|apply aP.there)))) ⟨trivial,some (dk,eI,eA),[]++[hY N order a],⟨cr,ot,by rw [qs,m1];refine dW.trans ?_;rfl⟩,by simp at nD ⊢;omega,by rw [lk];simp,fun q bs=>oC q (List.mem_cons_of_mem _ bs),rfl⟩
        · obtain ⟨eE,e9,fH⟩:=dy
          unfold hl gm at I ⊢;skip;refine aa.ox ak I C C C C C C C eQ C C C C a1 eE e9 C C C C A7 ai (fun dk eI eA cr cJ dW I=>?_);refine cn I ?_;intro I;exact At.mk (pC N an hD iu uZ cQ order num one own (some (dk,eI,eA)) (done++[hY N order a])) I (by simp only [pC,gm,hl,mZ,List.cons_append,List.nil_append,List.length_append,List.length_cons,List.length_nil];repeat (first|exact au.nil|(apply au.cons;· repeat (first|exact aP.here|apply aP.there)))) ⟨trivial,some (dk,eI,eA),done++[hY N order a],⟨cr,ot,by rw [qs,m1,List.length_append,List.length_cons,List.length_nil,← fH];refine dW.trans ?_;rfl⟩,by simp at nD ⊢;omega,by rw [lk];simp,fun q bs=>oC q (List.mem_cons_of_mem _ bs),rfl⟩
    · rintro K ⟨bw,done,dy,nD,lk,-,rfl⟩ I
      rw [List.map_nil,List.append_nil] at lk;rw [← lk,← rP] at dy;refine tX ?_;rw [← lk,← rP] at I ⊢;unfold pC at I ⊢;rcases bw with _|⟨g2,eI,eA⟩
      · have bB:small g=[]:=dy
        rw [bB];unfold hl;refine cn I ?_;intro I;exact Fin.bH I C a8.empty .nil ⟨rfl,rfl⟩
      · obtain ⟨eE,e9,fH⟩:=dy
        have sU:(small g).length≤1000:=by rw [rP,List.length_map,List.length_reverse];omega
        unfold hl gm at I ⊢;refine af.yP I 0 .here a1 C fH (by rw [List.length_map]) (kh _) e9 ai (fun I=>?_);simp only [List.set_cons_zero,← wJ] at I ⊢;refine cn I ?_;intro I;exact Fin.bH I C aR .nil ⟨rfl,rfl⟩
  | succ m=>
  have aG:m<g.length:=hm;have nm:(((m+1:Nat):Int)-1)=(m:Int):=by omega
  obtain ⟨x,ab,-⟩:=cD (f:=de) aG;have aF:=ER ao ab;have wL:(hX g (m+1))[m]? = some x:=by rw [J2 g ai hm,ab]
  have ht:=fun (k:Nat) (v:ad) (aD:(fj x)[k]? = some v)=>JX (kh _) fc.2.2 (by rw [List.getElem?_map,wL];rfl) aD
  unfold m0 at I ⊢;simp only [nm] at I ⊢;refine gu I ?_;intro I;refine aa.e7 ak m C C C C C C C C C C ai ?_;refine gB ?_;refine aa.kE ak I C C C C C C a1 C (ht 0 _ C) ?_;refine hv ?_;refine af.tW (σ:=List ad) (fun _=>[(0,.aA 4 (g.map de) .bd),(3,dG cQ g.length g.length),(4,.ptr pB 0),(5,.int .i64 (m:Int)),(6,.ptr ki (m*4))]) (fun cs'=>m0 g pB ki cQ cap (m+1) cs') (fun cs'=>qq (some (ki,cap,cs')) ((hX g (m+1)).set m (jX g m x))) ?_ ?_
  · refine af.cond C (fun aV=>?_) (fun aV=>?_)
    · have aV:x.atom≥0:=by simpa using aV
      obtain ⟨vt,tm,Kj,Kk⟩:=ao.eo m x ab aV
      have gz:=fun (z:Int) (U:(m:Int)<z) (ae:z<g.length)=>(show ((e4 g (m+1)).map bg)[z.toNat*1]? = some (.int .i64 ((e4 g (m+1)).getD z.toNat 0)) from by
        rw [Nat.mul_one,List.getElem?_map,List.getD_eq_getElem?_getD,List.getElem?_eq_getElem (by rw [wG g hm];omega)];rfl)
      have oD:=sQ (k:=1) (v := .int .i64 ((e4 g (m+1)).getD x.no.toNat 0)) (kh _) fc.2.2 (by rw [List.getElem?_map,wL];rfl) ai
      have m2:=sQ (k:=2) (v := .int .i64 ((e4 g (m+1)).getD x.yes.toNat 0)) (fun c aE=>by
        rcases List.mem_or_eq_of_mem_set aE with aE|rfl
        · exact kh _ c aE
        · rfl) oD.2 (List.getElem?_set_self (by rw [List.length_map,yS g hm];omega)) ai
      have sV:jX g m x={ x with no:=(e4 g (m+1)).getD x.no.toNat 0,yes:=(e4 g (m+1)).getD x.yes.toNat 0 }:=by unfold jX;rw [if_pos aV]
      have nV:=yS g hm;have eU:m*4+3≤cs.length:=by rw [fc.1];have:=fc.2.1;omega
      have Kl:Nat.ble (m*4+1+[ad.int .i64 ((e4 g (m+1)).getD x.no.toNat 0)].length) cs.length=true:=by rw [Nat.ble_eq];show m*4+1+1≤_;omega
      have Km:Nat.ble (m*4+2+[ad.int .i64 ((e4 g (m+1)).getD x.yes.toNat 0)].length) (eg (m*4+1) [ad.int .i64 ((e4 g (m+1)).getD x.no.toNat 0)] cs).length=true:=by rw [Nat.ble_eq,oD.1];show m*4+2+1≤_;omega
      skip;refine af.o3 (di [(cQ,_)]) ak mixed C (bm.run (di.one (aP.get a1 I)) C ?_);refine bm.two (i:=6) (j:=13) (di.one (aP.get a1 I)) C C C C C C (aU.dS ak I C C C a1 (lL C (ht 1 _ C))) C C C C (aU.dS ak I C C C a1 (lL C (ht 2 _ C))) ?_ ?_
      · refine bm.e7 7 ak (di.one (aP.get a1 I)) (j:=x.no.toNat) C C C C C C C C C C C ai ai ?_
        refine bm.mI 8 ak (di.one (aP.get a1 I)) C C C C C C C C (fun _ h=>di.fst h) (lL C (gz x.no ai ai)) ?_;refine bm.E5 13 ak I (di.one (aP.get a1 I)) C C C C C C C C a1 (lL C (ht 2 _ C)) ?_;refine bm.e7 14 ak (di.one (aP.get a1 I)) (j:=x.yes.toNat) C C C C C C C C C C C ai ai ?_;refine bm.mI 15 ak (di.one (aP.get a1 I)) C C C C C C C C (fun _ h=>di.fst h) (lL C (gz x.yes ai ai)) ?_;refine bm.run (di.one (aP.get a1 I)) C ?_;refine bm.cF 18 ak I C C C C C C C C C C C a1 Kl (fun I => .inl (di.one (aP.get a1 I))) (fun I=>?_);refine bm.run (di.one (aP.get a1 I)) C ?_;refine bm.cF 21 ak I C C C C C C C C C C C a1 Km (fun _ => .inr C) (fun I=>?_);refine bf.done C ?_;skip
        exact jN.mk _ I ⟨m2.1.trans (oD.1.trans fc.1),by rw [List.length_set];exact fc.2.1,by
          rw [List.length_set]
          refine m2.2.trans ?_
          rw [List.set_set,List.map_set,sV]
          rfl⟩ (c3 C) (by simp only [m0];repeat (first|exact au.nil|(apply au.cons;· repeat (first|exact aP.here|apply aP.there))))
      · refine bm.e7 14 ak (di.one (aP.get a1 I)) (j:=x.yes.toNat) C C C C C C C C C C C ai ai ?_
        refine bm.mI 15 ak (di.one (aP.get a1 I)) C C C C C C C C (fun _ h=>di.fst h) (lL C (gz x.yes ai ai)) ?_;refine bm.E5 6 ak I (di.one (aP.get a1 I)) C C C C C C C C a1 (lL C (ht 1 _ C)) ?_;refine bm.e7 7 ak (di.one (aP.get a1 I)) (j:=x.no.toNat) C C C C C C C C C C C ai ai ?_;refine bm.mI 8 ak (di.one (aP.get a1 I)) C C C C C C C C (fun _ h=>di.fst h) (lL C (gz x.no ai ai)) ?_;refine bm.run (di.one (aP.get a1 I)) C ?_;refine bm.cF 18 ak I C C C C C C C C C C C a1 Kl (fun I => .inl (di.one (aP.get a1 I))) (fun I=>?_);refine bm.run (di.one (aP.get a1 I)) C ?_;refine bm.cF 21 ak I C C C C C C C C C C C a1 Km (fun _ => .inr C) (fun I=>?_);refine bf.done C ?_;skip
        exact jN.mk _ I ⟨m2.1.trans (oD.1.trans fc.1),by rw [List.length_set];exact fc.2.1,by
          rw [List.length_set]
          refine m2.2.trans ?_
          rw [List.set_set,List.map_set,sV]
          rfl⟩ (c3 C) (by simp only [m0];repeat (first|exact au.nil|(apply au.cons;· repeat (first|exact aP.here|apply aP.there))))
    · have aV:¬ x.atom≥0:=by simpa using aV
      have sV:jX g m x=x:=by unfold jX;rw [if_neg aV]
      refine gi ?_;exact jN.mk cs I (by rw [sV,fu wL];exact fc) (c3 C) (by simp only [m0];repeat (first|exact au.nil|(apply au.cons;· repeat (first|exact aP.here|apply aP.there))))
  intro cs' qz I;generalize yq:jX g m x=y at qz aF;have nV:=yS g hm;have m2:(b4 (m+1) (g.drop (m+1))).2.length=g.length-(m+1):=by rw [(mw _ _).2,List.length_drop]
  have Fa:∀ j,((hX g (m+1)).set m y)[m+1+j]? = (b4 (m+1) (g.drop (m+1))).2[j]? := fun j=>by
    rw [List.getElem?_set_ne ai,J1 g hm]
  have Fb:((hX g (m+1)).set m y)[m]? = some y:=List.getElem?_set_self ai;have Bu:=fun (k:Nat) (v:ad) (aD:(fj y)[k]? = some v)=>JX (kh _) qz.2.2 (by rw [List.getElem?_map,Fb];rfl) aD
  have Bv:(hX g (m+1)).set m y=hX g m:=J3 aG aF C;have Jm:(g.length:Int)-1=((m+(g.length-1-m):Nat):Int):=by omega
  unfold m0 at I ⊢;refine iO ?_;refine af.cT [0,3,4,5,6] C I (σ:=Nat) (fun c=>[(7,.int .i64 ((m+c:Nat):Int))]) (fun _=>m0 g pB ki cQ cap (m+1) cs') (fun c=>m+c<g.length∧k7 (jY g m y) 0 (b4 (m+1) (g.drop (m+1))).2=k7 (jY g m y) 0 ((b4 (m+1) (g.drop (m+1))).2.take c)) (fun c=>c) (g.length-1-m) ⟨by omega,by rw [List.take_of_length_le ai]⟩ Jl (by simp only [m0];repeat (first|exact au.nil|(apply au.cons;· repeat (first|exact aP.here|apply aP.there)))) ?_;rintro c ⟨aE,aH⟩ I;simp only [m0] at aE aH I ⊢;cases c with
  | zero=>
    rw [aH,List.take_zero,k7] at aF;refine cL ?_;refine af.cond C (fun h=>by simp at h) (fun _=>?_);refine bP ?_;refine aa.e7 ak m C C C C C C C C C C ai ?_;refine aa.kF ak I _ C C C C C C C C C a1 (by rw [List.length_map,wG g hm];show m*1+1≤_;omega) C (fun I=>?_);have sW:eg (m*1) [.int .i64 (m:Int)] ((e4 g (m+1)).map bg)=(e4 g m).map bg:=by
      rw [ru,Nat.mul_one,← ES aF C,List.map_set];rfl
    refine h8 ?_;exact bX.mk (m,cs') I ⟨by omega,by rw [← Bv];exact qz⟩ sj (by simp only [m0,← sW];exact bM) sG
  | succ c=>
    have cE:c<(b4 (m+1) (g.drop (m+1))).2.length:=by omega
    obtain ⟨z,bE⟩:∃ z,(b4 (m+1) (g.drop (m+1))).2[c]? = some z:=⟨_,List.getElem?_eq_getElem cE⟩;have yX:=Fa c;rw [bE] at yX;have gz:((e4 g (m+1)).map bg)[(m+1+c)*1]? = some (.int .i64 ((b4 (m+1) (g.drop (m+1))).1.getD c 0)):=by
      rw [← yT,Nat.mul_one,List.getElem?_map,List.getD_eq_getElem?_getD,List.getElem?_eq_getElem (by rw [wG g hm];omega)];rfl
    have hc:(b4 (m+1) (g.drop (m+1))).2.take (c+1)=(b4 (m+1) (g.drop (m+1))).2.take c++[z]:=by rw [List.take_add_one,bE];rfl
    rw [hc,J0,Nat.zero_add,List.length_take,Nat.min_eq_left ai] at aH;have kO:jY g m y c z=((b4 (m+1) (g.drop (m+1))).1.getD c 0==((m+1+c:Nat):Int)&&z==y):=rfl;obtain ⟨dU,jT,sT⟩:=yU _ _ _ _ bE;have lv:=ao.ms dU (List.mem_of_mem_drop jT);have gN:=ao.ms x (List.mem_of_getElem? ab);have sa:=J4 g m x;rw [yq] at sa;have heq:=sr y.ms z.ms (by rw [sa];omega) (by rw [sT];omega);have Jj:(((m+(c+1):Nat):Int)-1)=((m+c:Nat):Int):=by omega
    have m3:((m+1+c:Nat):Int)=((m+(c+1):Nat):Int):=by omega
    refine cL ?_;refine af.cond C (fun _=>?_) (fun h=>by simp at h;omega);refine cn I ?_;intro I;refine aa.e7 ak (m+1+c) C C C C C C C C C ai ai ?_;refine aa.dS ak I C C C C C C a1 (Bg C (kh _) qz.2.2 (by rw [List.getElem?_map,yX];rfl)) ?_;refine gP ?_;refine aM.e7 ak (m+1+c) C C C C C C C C C ai ai ?_;refine aM.kE ak I C C C C C C a1 C gz ?_;refine jb ?_;by_cases cr:(b4 (m+1) (g.drop (m+1))).1.getD c 0=((m+(c+1):Nat):Int);rotate_left
    · refine aM.split 74 C (fun h=>absurd gn cr) (fun _=>?_)
      have h4:jY g m y c z=false:=by rw [kO,m3,show ((b4 (m+1) (g.drop (m+1))).1.getD c 0==((m+(c+1):Nat):Int))=false from beq_eq_false_iff_ne.2 cr,Bool.false_and]
      rw [h4,if_neg bn] at aH;refine cy ?_;exact bX.mk c I ⟨by omega,aH⟩ sF bM sH
    refine aM.split 74 C (fun _=>?_) (fun h=>absurd cr gn);rw [m3,show ((b4 (m+1) (g.drop (m+1))).1.getD c 0==((m+(c+1):Nat):Int))=true from beq_iff_eq.2 cr,Bool.true_and,Sw] at kO;refine jb ?_;refine aM.kE ak I C C C C C C a1 C (Bu 0 _ C) ?_;refine jb ?_;by_cases cJ:y.atom=z.atom;rotate_left
    · refine aM.split 83 C (fun h=>absurd gn cJ) (fun _=>?_)
      have h4:jY g m y c z=false:=by rw [kO,show decide (z.atom=y.atom)=false from decide_eq_false (fun e=>cJ e.symm)];simp
      rw [h4,if_neg bn] at aH;refine cy ?_;exact bX.mk c I ⟨by omega,aH⟩ sF bM sH
    refine aM.split 83 C (fun _=>?_) (fun h=>absurd cJ gn);rw [show decide (z.atom=y.atom)=true from decide_eq_true cJ.symm,Bool.true_and] at kO;refine jb ?_;refine aM.kE ak I C C C C C C a1 C (Bu 1 _ C) ?_;refine jb ?_;by_cases dW:y.no=z.no;rotate_left
    · refine aM.split 92 C (fun h=>absurd gn dW) (fun _=>?_)
      have h4:jY g m y c z=false:=by rw [kO,show decide (z.no=y.no)=false from decide_eq_false (fun e=>dW e.symm)];simp
      rw [h4,if_neg bn] at aH;refine cy ?_;exact bX.mk c I ⟨by omega,aH⟩ sF bM sH
    refine aM.split 92 C (fun _=>?_) (fun h=>absurd dW gn);rw [show decide (z.no=y.no)=true from decide_eq_true dW.symm,Bool.true_and] at kO;refine jb ?_;refine aM.kE ak I C C C C C C a1 C (Bu 2 _ C) ?_;refine jb ?_;by_cases n0:y.yes=z.yes;rotate_left
    · refine aM.split 101 C (fun h=>absurd gn n0) (fun _=>?_)
      have h4:jY g m y c z=false:=by rw [kO,show decide (z.yes=y.yes)=false from decide_eq_false (fun e=>n0 e.symm)];simp
      rw [h4,if_neg bn] at aH;refine cy ?_;exact bX.mk c I ⟨by omega,aH⟩ sF bM sH
    refine aM.split 101 C (fun _=>?_) (fun h=>absurd n0 gn);rw [show decide (z.yes=y.yes)=true from decide_eq_true n0.symm,Bool.true_and] at kO;refine jb ?_;refine aM.kE ak I C C C C C C a1 C (Bu 3 _ C) ?_;have Kn:(z.ms==y.ms)=(y.ms==z.ms):=by rw [Bool.eq_iff_iff,beq_iff_eq,beq_iff_eq];exact ⟨fun h=>h.symm,fun h=>h.symm⟩
    cases mq:y.ms==z.ms with
    | false=>
      have h4:jY g m y c z=false:=by rw [kO,Kn,mq]
      rw [mq] at heq;rw [h4,if_neg bn] at aH;refine cy ?_;exact bX.mk c I ⟨by omega,aH⟩ sF bM sH
    | true=>
      have h4:jY g m y c z=true:=by rw [kO,Kn,mq]
      rw [h4,if_pos C] at aH;rw [aH] at aF;simp only [m3] at aF;rw [mq] at heq;refine cH ?_;refine aa.e7 ak m C C C C C C C C C C ai ?_;refine aa.kF ak I _ C C C C C C C C C a1 (by rw [List.length_map,wG g hm];show m*1+1≤_;omega) C (fun I=>?_);have sW:eg (m*1) [.int .i64 ((m+(c+1):Nat):Int)] ((e4 g (m+1)).map bg)=(e4 g m).map bg:=by
        rw [ru,Nat.mul_one,← ES aF C,List.map_set];rfl
      refine bP ?_;exact bX.mk (m,cs') I ⟨by omega,by rw [← Bv];exact qz⟩ sj (by simp only [m0,← sW];exact bM) sG
end Go.Proofs.YtnafpeohfbglmaaGreat
namespace Go.Proofs.YtnafpeohfbglmaaGreat
open Go.bj Go.bY
theorem Ko (x y:bC) (ab:x.ms.length<bt) (ay:y.ms.length<bt):a7 Tryz.prog 66 [de x,de y] (.bool (x==y)):=by
 have an:=bQ;refine a7.bp ak call66 Tryz.func66 C C fun s I=>?_
 have U:=x5 x.ms y.ms ab ay;have he:(x==y)=(decide (x.atom=y.atom)&&(decide (x.no=y.no)&&(decide (x.yes=y.yes)&&x.ms==y.ms))):=by
  obtain ⟨a,b,c,d⟩:=x;obtain ⟨cR,aT,mN,cM⟩:=y;rw [Bool.eq_iff_iff];simp
 unfold de fj bI at *
 repeat' (first|(with_reducible first|apply af.seq|apply cf|apply af.ret)|refine dK C ?_|refine af.cK ?_|refine aa.nil ?_|refine cG C ?_|refine aa.skip C C C ?_|refine aa.eB C C C C C cq ?_|(fail_if_success refine aa.same true C ?_);(fail_if_success refine aa.same false C ?_);refine aa.iB C C (fun h=>?_) (fun h=>?_))
 all_goals (refine Fin.dT I C (a8.of_eq (congrArg ad.bool ?_));rw [he];clear I U he;grind)
theorem Bw (a b:List bC) (aV:a.length<bt) (dz:b.length<bt) (SS:∀ x∈a,x.ms.length<bt) (Bx:∀ x∈b,x.ms.length<bt):a7 Tryz.prog 15 [eR a,eR b] (.bool (a==b)):=by
 have an:=bQ;refine a7.bp ak call15 Tryz.func15 C C fun s I=>?_
 unfold eR;refine cL ?_;refine af.cond C (fun cB=>?_) (fun heq=>?_)
 ·have cB:a.length≠b.length:=by simp at cB;omega
  have:(a==b)=false:=by rw [beq_eq_false_iff_ne];rintro rfl;exact cB C
  rw [this];refine j' ?_;exact bA I
 have heq:a.length=b.length:=by simp at heq;omega
 refine lH ?_;refine af.cT [0,1] C I (σ:=Nat) (fun j=>[(5,.int .i64 (j:Int))]) (fun _=>[]) (fun j=>j≤a.length∧(a==b)=(a.drop j==b.drop j)) (fun j=>a.length-j) 0 ⟨Nat.zero_le _,by simp⟩ (c3 C) .nil ?_;rintro j ⟨aS,aH⟩ I
 try simp only at aS aH I ⊢
 refine cL ?_;refine af.cond C (fun aG=>?_) (fun bk=>?_);rotate_left
 ·have bk:j=a.length:=by simp at bk;omega
  rw [fC ai,fC (l:=b) ai] at aH;rw [aH];refine fJ ?_;exact bA I
 have aG:j<a.length:=by simpa using aG
 obtain ⟨x,ab,ch⟩:=cD (f:=de) aG;obtain ⟨y,ay,ey⟩:=cD (f:=de) (show j<b.length by omega);have aw:=Ko x y (SS x (List.mem_of_getElem? ab)) (Bx y (List.mem_of_getElem? ay));rw [drop_cons ab,drop_cons ay,List.cons_beq_cons] at aH;unfold de fj bI at ch ey aw;cases aE:x==y with
 | false=>
  rw [aE] at aw;rw [aH,aE,Bool.false_and];refine cy ?_;exact bA I
 | true=>
  rw [aE] at aw;rw [aE,Bool.true_and] at aH;refine cy ?_;exact bX.mk (j+1) I ⟨aG,aH⟩ c7 .nil xT
theorem SU (g:List bC) (gD:fP g=true):a7 Tryz.prog 70 [eR g] (.int .i64 (iD g)):=by
 have an:=bQ;refine a7.bp ak call70 Tryz.func70 C C fun s I=>?_
 unfold eR at *;obtain ⟨l6,ev⟩:=vV gD;have jc:((g.map de).length:Int)=(g.length:Int):=by rw [List.length_map]
 refine dF ?_;refine aa.su ak I g.length C C C C C C C C C C (congrArg (fun z=>some (ad.int .i64 z)) jc) (congrArg (fun z=>some (ad.int .i64 z)) jc) (by show _*8≤_;omega) ai (fun b I=>?_);rw [show List.replicate g.length (ad.int .i64 0)=(ht g g.length).map bg by unfold ht;rw [fC (Nat.le_refl _),fc,List.append_nil,List.map_replicate];rfl] at I ⊢;refine bP ?_;have hw:IntKind.wrap .i64 ((g.length:Int)-1)=(g.length:Int)-1:=e0 ai ai;refine af.cT [0,3] C I (σ:=Nat) (fun j=>[(4,.int .i64 ((j:Int)-1))]) (fun j=>[(.own b,.box 3 ((ht g j).map bg))]) (fun j=>j≤g.length) (fun j=>j) g.length (Nat.le_refl _) xR bM ?_;rintro j aS I;refine cL ?_;cases j with
 | zero=>
  refine af.cond C (fun h=>by simp at h) (fun _=>?_);refine bP ?_;refine aa.e7 ak 0 C C C C C C C C C C ai ?_
  refine aa.kE ak I C C C C C C a1 C (v := .int .i64 (iD g)) (by
   unfold ht iD
   rw [List.drop_zero,List.replicate_zero,List.nil_append,List.getElem?_map,List.getElem?_eq_getElem (by rw [vW];omega),List.getD_eq_getElem?_getD,List.getElem?_eq_getElem (by rw [vW];omega)];rfl) ?_
  refine dO ?_;exact bA I
 | succ k=>
 have e:(((k+1:Nat):Int)-1)=(k:Int):=by omega
 rw [e];refine af.cond C (fun _=>?_) (fun h=>by simp at h);obtain ⟨x,ab,ch⟩:=cD (f:=de) (show k<g.length by omega);have aX:=ry gD ab;unfold de fj bI at ch;refine fA ?_;refine af.cond C (fun aV=>?_) (fun aV=>?_);rotate_left
 ·have aV:¬ x.atom≥0:=by simpa using aV
  rw [Io ab aV] at I ⊢;refine gi ?_;exact bX.mk k I (by show k≤g.length;omega) sj bM (by show k<k+1;omega)
 have aV:x.atom≥0:=by simpa using aV
 have dN:=(iS ai).1 aX;have hH:=vX (j:=x.no.toNat-(k+1)) (n:=300) ai (fun v av=>⟨(rz (g.drop (k+1)) (k+1) v av).1,by have:=(rz (g.drop (k+1)) (k+1) v av).2;rw [List.length_drop] at this;omega⟩);have PV:=vX (j:=x.yes.toNat-(k+1)) (n:=300) ai (fun v av=>⟨(rz (g.drop (k+1)) (k+1) v av).1,by have:=(rz (g.drop (k+1)) (k+1) v av).2;rw [List.length_drop] at this;omega⟩)
 have qS:=Im ab aV (v:=IntKind.wrap .i64 (1+(if (fc (k+1) (g.drop (k+1))).getD (x.yes.toNat-(k+1)) 0>(fc (k+1) (g.drop (k+1))).getD (x.no.toNat-(k+1)) 0 then (fc (k+1) (g.drop (k+1))).getD (x.yes.toNat-(k+1)) 0 else (fc (k+1) (g.drop (k+1))).getD (x.no.toNat-(k+1)) 0))) (by
  rw [e0 ub ub];split<;>omega)
 refine n8 ?_;refine aM.e7 ak x.no.toNat C C C C C C C C C ai ai ?_;refine aM.kE ak I C C C C C C a1 C (AU dN.2.2.1 dN.2.2.2.1) ?_;refine cH ?_;refine aM.e7 ak x.yes.toNat C C C C C C C C C ai ai ?_;refine aM.kE ak I C C C C C C a1 C (AU dN.2.2.2.2.1 dN.2.2.2.2.2.1) ?_;refine cH ?_;refine aM.e7 ak k C C C C C C C C C C ai ?_;refine aM.kF ak I _ C C C C C C C C C C a1 (by rw [List.length_map,DY ai];show k*1+1≤_;omega) qS (fun I=>?_);refine gi ?_;exact bX.mk k I (by show k≤g.length;omega) sj bM (by show k<k+1;omega)
end Go.Proofs.YtnafpeohfbglmaaGreat
namespace Go.Proofs.YtnafpeohfbglmaaGreat
open Go.bj Go.bY
theorem Kp (g:List bC) (ao:g.length<bt) (hm:∀ x∈g,x.ms.length<bt):a7 Tryz.prog 69 [eR g] (.bool (fP g)):=by
 have an:=bQ;refine a7.bp ak call69 Tryz.func69 C C fun s I=>?_
 unfold eR;have df:fP g=fP g:=rfl
 conv at df=>rhs;unfold fP
 refine dF ?_;by_cases g1:g.length=0
 ·refine aa.eH 9 C (by simp [g1]) ?_
  rw [show decide (1≤g.length)=false by simp [g1],Bool.false_and] at df;rw [df];refine cC ?_;exact bA I
 refine aa.dR 9 C dq ?_;rw [show decide (1≤g.length)=true by simp;omega,Bool.true_and] at df;refine hv ?_;refine af.cond C (fun g2=>?_) (fun g2=>?_)
 ·rw [show decide (g.length≤300)=false by simp at g2 ⊢;omega,Bool.false_and] at df
  rw [df];refine j' ?_;exact bA I
 have g2:g.length≤300:=by simp at g2;omega
 rw [decide_eq_true g2,Bool.true_and] at df;rw [df];refine lH ?_;refine af.cT [0] C I (σ:=Nat) (fun j=>[(3,.int .i64 (j:Int))]) (fun _=>[]) (fun j=>j≤g.length∧nz g.length 0 g=nz g.length j (g.drop j)) (fun j=>g.length-j) 0 ⟨Nat.zero_le _,rfl⟩ (c3 C) bM ?_;rintro j ⟨aS,aH⟩ I
 try simp only at aS aH I ⊢
 refine cL ?_;refine af.cond C (fun aG=>?_) (fun bk=>?_);rotate_left
 ·have bk:j=g.length:=by simp at bk;omega
  rw [fC ai,nz] at aH;rw [aH];refine fJ ?_;exact bA I
 have aG:j<g.length:=by simpa using aG
 obtain ⟨x,ab,ch⟩:=cD (f:=de) aG;have yY:=hm x (List.mem_of_getElem? ab);rw [drop_cons ab,nz] at aH;unfold de fj bI at ch;refine gP ?_;refine af.cond C (fun aV=>?_) (fun aV=>?_);rotate_left
 ·have aV:x.atom ≠ -1:=by simpa using aV
  refine fA ?_;by_cases U:x.atom<0
  ·refine aa.eH 75 C dq ?_
   refine cC ?_;rw [aH,show hx g.length j x=false from Bool.eq_false_iff.2 (fun h=>by have:=(iS aV).1 h;omega),Bool.false_and];skip;exact bA I
  refine aa.dR 75 C dq ?_;refine d' ?_;by_cases ae:x.atom≥7
  ·refine aa.eH 80 C dq ?_
   refine cC ?_;rw [aH,show hx g.length j x=false from Bool.eq_false_iff.2 (fun h=>by have:=(iS aV).1 h;omega),Bool.false_and];skip;exact bA I
  refine aa.dR 80 C dq ?_;refine d' ?_;by_cases al:x.no≤(j:Int)
  ·refine aa.eH 86 C dq ?_
   refine cC ?_;rw [aH,show hx g.length j x=false from Bool.eq_false_iff.2 (fun h=>by have:=(iS aV).1 h;omega),Bool.false_and];skip;exact bA I
  refine aa.dR 86 C dq ?_;refine d' ?_;by_cases bl:x.no≥(g.length:Int)
  ·refine aa.eH 93 C dq ?_
   refine cC ?_;rw [aH,show hx g.length j x=false from Bool.eq_false_iff.2 (fun h=>by have:=(iS aV).1 h;omega),Bool.false_and];skip;exact bA I
  refine aa.dR 93 C dq ?_;refine d' ?_;by_cases bD:x.yes≤(j:Int)
  ·refine aa.eH 99 C dq ?_
   refine cC ?_;rw [aH,show hx g.length j x=false from Bool.eq_false_iff.2 (fun h=>by have:=(iS aV).1 h;omega),Bool.false_and];skip;exact bA I
  refine aa.dR 99 C dq ?_;refine d' ?_;by_cases fG:x.yes≥(g.length:Int)
  ·refine aa.eH 106 C dq ?_
   refine cC ?_;rw [aH,show hx g.length j x=false from Bool.eq_false_iff.2 (fun h=>by have:=(iS aV).1 h;omega),Bool.false_and];skip;exact bA I
  refine aa.dR 106 C dq ?_;refine hv ?_;refine af.cond C (fun bD=>?_) (fun bD=>?_)
  ·have bD:x.ms.length≠0:=by simp at bD;omega
   rw [aH,show hx g.length j x=false from Bool.eq_false_iff.2 (fun h=>by have:=(iS aV).1 h;omega),Bool.false_and];refine mh ?_;exact bA I
  have hF:x.ms.length=0:=by simp at bD;rw [bD];rfl
  rw [(iS aV).2 ai,Bool.true_and] at aH;refine gi ?_;exact bX.mk (j+1) I ⟨aG,aH⟩ c7 bM ua
 have aV:x.atom = -1:=by simpa using aV
 refine k3 ?_;by_cases U:x.no=0;rotate_left
 ·refine aa.eH 30 C rk ?_
  refine cC ?_;rw [aH,show hx g.length j x=false from Bool.eq_false_iff.2 (fun h=>by have:=(lM aV).1 h;omega),Bool.false_and];skip;exact bA I
 refine aa.dR 30 C rk ?_;refine d' ?_;by_cases ae:x.yes=0;rotate_left
 ·refine aa.eH 35 C (by simpa using ae) ?_
  refine cC ?_;rw [aH,show hx g.length j x=false from Bool.eq_false_iff.2 (fun h=>by have:=(lM aV).1 h;omega),Bool.false_and];skip;exact bA I
 refine aa.dR 35 C (by simpa using ae) ?_;refine hv ?_;refine af.cond C (fun al=>?_) (fun al=>?_)
 ·rw [aH,show hx g.length j x=false from Bool.eq_false_iff.2 (fun h=>by have:=(lM aV).1 h;simp at al;omega),Bool.false_and]
  refine mh ?_;exact bA I
 have al:x.ms.length≤16:=by simp at al;omega
 refine lH ?_;refine af.cT [0,3,4] C I (σ:=Nat) (fun k=>[(5,.int .i64 (k:Int))]) (fun _=>[]) (fun k=>k≤x.ms.length∧pa x.ms=k9 (if k=0 then none else x.ms[k-1]?) (x.ms.drop k)) (fun k=>x.ms.length-k) 0 ⟨Nat.zero_le _,Ih _⟩ (c3 C) bM ?_;rintro k ⟨aD,br⟩ I
 try simp only at aD br I ⊢
 refine cL ?_;refine af.cond C (fun c6=>?_) (fun e1=>?_);rotate_left
 ·have e1:k=x.ms.length:=by simp at e1;omega
  rw [fC ai,k9] at br;rw [(lM aV).2 ⟨U,ae,al,br⟩,Bool.true_and] at aH;refine fJ ?_;exact bX.mk (j+1) I ⟨aG,aH⟩ c7 bM ua
 have c6:k<x.ms.length:=by simpa using c6
 obtain ⟨y,ay,ey⟩:=cD (f:=bg) c6;rw [drop_cons ay] at br;unfold bg at ey;refine n8 ?_;by_cases bl:y<0
 ·refine aM.split 54 C (fun _=>?_) (fun h=>by simp at h;omega)
  have br:pa x.ms=false:=by
   rw [br];cases (if k=0 then none else x.ms[k-1]?)<;>rw [k9,show decide (y≥0)=false by simp;omega,Bool.false_and]
  rw [aH,show hx g.length j x=false from Bool.eq_false_iff.2 (fun h=>by have:=((lM aV).1 h).2.2.2;rw [br] at this;cases this),Bool.false_and];refine cy ?_;exact bA I
 refine aM.split 54 C (fun h=>by simp at h;omega) (fun _=>?_);have l1:decide (y≥0)=true:=by simp;omega
 cases k with
 | zero=>
  rw [if_pos C,k9,l1,Bool.true_and] at br;refine cy ?_;exact bX.mk 1 I ⟨c6,by rw [if_neg ai];simpa [ay] using br⟩ AF bM (by show x.ms.length-1<x.ms.length-0;omega)
 | succ k=>
 rw [if_neg ai,Nat.add_sub_cancel] at br;obtain ⟨z,bE,kG⟩:=cD (f:=bg) (show k<x.ms.length by omega);rw [bE,k9,l1,Bool.true_and] at br;unfold bg at kG;refine jb ?_;refine aM.split 57 C (fun _=>?_) (fun h=>by simp at h);refine cH ?_;refine aM.idx k C C C C C C C C C C (by rw [e0 ai ai];push_cast;omega) kG C ?_;refine cH ?_;refine af.cond C (fun bD=>?_) (fun bD=>?_)
 ·rw [show decide (z<y)=false by simp at bD ⊢;omega,Bool.false_and] at br
  rw [aH,show hx g.length j x=false from Bool.eq_false_iff.2 (fun h=>by have:=((lM aV).1 h).2.2.2;rw [br] at this;cases this),Bool.false_and];refine mh ?_;exact bA I
 rw [show decide (z<y)=true by simp at bD ⊢;omega,Bool.true_and] at br;refine gi ?_;exact bX.mk (k+2) I ⟨c6,by rw [if_neg ai];simpa [ay] using br⟩ xQ bM (by show x.ms.length-(k+2)<x.ms.length-(k+1);omega)
theorem SV (g:List bC) (ao:g.length<bt) (hm:∀ x∈g,x.ms.length<bt):a7 Tryz.prog 19 [eR g] (.cl [.int .i64 (if fP g then iD g else 0),.int .i64 (if fP g then 0 else 2)]):=by
 have an:=bQ;refine a7.bp ak call19 Tryz.func19 C C fun s I=>?_
 have ba:=Kp g ao hm;unfold eR at *;cases gD:fP g with
 | false=>
  rw [gD] at ba;refine cy ?_;exact bA I
 | true=>
  rw [gD] at ba;have c':=SU g gD;unfold eR at c';refine cy ?_;exact bA I
end Go.Proofs.YtnafpeohfbglmaaGreat
namespace Go.bj
section
variable {P:Program} {Γ:cg} {N:Nat} {l:List Oper} {i:Nat} {rest:List Oper} {Q:b2→Env→aj→Prop} {env:Env} {s:aj} {o:Oper} {d:Nat}
theorem aM.Kq {L R c4:a6} {xr:Nat} {cQ:db} (aO:bL P Γ) (I:Ok s L) {t T:TypeId} {x y:Operand} {dm:bJ} {b off:Nat} {cs us:List ad} {v:ad} (cs':List ad) (ao:guardOf l.toArray (bc env (looks l.toArray o)) o=some true) (ar:o.dst=none) (az:ed l.toArray (2^i-1) (idxs 0 l)=[i])
  (bW:o.op = .store t x y) (aK:Γ.get? t=some dm) (ab:aJ (bc env (looks l.toArray o)) x=some (.ptr b off)) (ay:aJ (bc env (looks l.toArray o)) y=some v)
  (av:cellsOf v=some us) (hu:Nat.beq us.length dm.size=true) (U:us.all eN=true) (aw:aP L (.own b) (.box T cs) R) (eU:off+us.length≤cs.length) (he:eg off us cs=cs') (SW:aP ((.own b,.box T cs')::R) (.own xr) cQ c4)
  (h:Ok s ((.own b,.box T cs')::R)→aM (fun ah=>ah xr=some cQ) P Γ N l (i+1) rest Q env (aQ s ((.own b,.box T cs')::R))):aM (fun ah=>ah xr=some cQ) P Γ N l i (o::rest) Q env (aQ s L):=by
 subst he;exact aM.H9 ao ar az (aU.cF aO I bW aK ab ay av hu U aw (by simpa [Nat.ble_eq] using eU) (X:=fun _ _=>False)) (fun x ah ⟨b8,bZ⟩=>by subst b8;exact SW.get bZ) (fun x ah ⟨b8,bZ⟩=>by subst b8;exact h bZ) (fun _ _ h=>h.elim)
theorem aM.p0 {J:aj→Prop} (aO:bL P Γ) {t bG e:TypeId} {x y:Operand} {it cp aB:bJ} {dL bV:Nat} {xs ys:List ad} {own dh:bU} (ao:guardOf l.toArray (bc env (looks l.toArray o)) o=some true) (ar:o.dst=some d) (aX:Nat.blt d N=true)
  (ag:o.op = .call { callee := .builtin .append,args := #[x,y],argTypes := #[t,bG] }) (aK:Γ.get? t=some it) (bo:it.bz = .aA e) (cS:Γ.get? bG=some cp) (dp:∀ k,cp.bz ≠ .int k)
  (bF:Γ.get? e=some aB) (ab:aJ (bc env (looks l.toArray o)) x=some (.aA dL xs own)) (ay:aJ (bc env (looks l.toArray o)) y=some (.aA bV ys dh)) (fI:xs=[]∨dL=aB.size) (cY:ys=[]∨bV=aB.size)
  (dJ:Nat.beq aB.zero.cells.size aB.size=true) (dB:∀ y∈ys,jv aB.size y=true) (an:(xs.length+ys.length)*aB.bytes≤140737488355328) (dY:xs.length+ys.length≤9223372036854775807)
  (n6:own = .nil∨own = .clip) (h:aM J P Γ N l (i+1) rest Q ((d,.aA aB.size (xs++ys) .bd)::env) s):aM J P Γ N l i (o::rest) Q env s:=
 aM.calm ao ar aX (fun _ _=>aU.p0 aO ag aK bo cS dp bF ab ay fI cY dJ dB an dY n6) h
end
end Go.bj
namespace Go.Proofs.YtnafpeohfbglmaaGreat
open Go.bj Go.bY
theorem SX {g:List bC} {m:Nat} {y:bC} {a b:Nat} {n7 wM:bC} (aV:(b4 (m+1) (g.drop (m+1))).2[a]? = some n7) (an:(b4 (m+1) (g.drop (m+1))).2[b]? = some wM) (U:jY g m y a n7=true) (ae:jY g m y b wM=true):a=b:=by
 have key:∀ {a b:Nat} {n7 wM:bC},(b4 (m+1) (g.drop (m+1))).2[a]? = some n7→(b4 (m+1) (g.drop (m+1))).2[b]? = some wM→jY g m y a n7=true→jY g m y b wM=true→a<b→False:=by
  intro a b n7 wM aV an U ae aG;unfold jY at U ae;rw [Bool.and_eq_true,beq_iff_eq,beq_iff_eq] at U ae;have jE:=(List.getElem?_eq_some_iff.1 an).1;rw [(mw _ _).2] at jE;refine JZ (g.drop (m+1)) (m+1) a b aG jE U.1 ae.1 ?_;rw [List.getD_eq_getElem?_getD,List.getD_eq_getElem?_getD,aV,an];exact U.2.trans ae.2.symm
 rcases Nat.lt_trichotomy a b with h|h|h
 ·exact (key aV an U ae h).elim
 ·exact h
 ·exact (key an aV ae U h).elim
def m4 (m:Nat) (K:Option Nat) (c:Nat):Int:=match K with
 | some j=>if c≤j then ((m+1+j:Nat):Int) else (m:Int)
 | none=>(m:Int)
theorem SY {m c:Nat} {K:Option Nat} (h:K=some c):m4 m K c=((m+1+c:Nat):Int):=by rw [h,m4,if_pos (Nat.le_refl _)]
theorem Kr {m c:Nat} {K:Option Nat} (h:K≠some c):m4 m K c=m4 m K (c+1):=by
 cases K with
 | none=>rfl
 | some j=>
  have:j≠c:=fun e=>h (by rw [e])
  rw [m4,m4];by_cases aE:c≤j
  ·rw [if_pos aE,if_pos ai]
  ·rw [if_neg aE,if_neg ai]
theorem SZ {m c:Nat} {K:Option Nat} (h:∀ j,K=some j→j<c):m4 m K c=(m:Int):=by
 cases K with
 | none=>rfl
 | some j=>rw [m4,if_neg (by have:=h j C;omega)]
def u1 (g:List bC) (ki cQ m:Nat) (cs:List ad):a6:=[(.own ki,.box 69 cs),(.own cQ,.box 3 ((e4 g m).map bg))]
theorem S0 (g:List bC) (ao:oz g):bu Tryz.prog 116 [eR g] [] (fun o K=>o = .ret (bI (b4 0 g).1)∧K=[]):=by
  have k0:bt=1099511627776:=rfl;have nI:=ao.pos;have la:=ao.len;refine bu.bp ak call116 Tryz.func116 C C fun s I=>?_
  unfold eR;refine dF ?_;refine aa.su ak I (g.map de).length C C C C C C C C C C C C (by rw [List.length_map];show _*8≤_;omega) nL (fun cQ I=>?_);refine gB ?_;refine aa.Bs ak I (yss:=g.map fj) C C C C C C C eQ C C C C (by rw [← wJ];rfl) C (kh g) (by simpa using nI) (by rw [List.length_map];show _*48≤_;omega) nL (fun ki cap Bt cr cJ dW I=>?_);simp only [List.length_map] at cJ dW I ⊢;have E7:qq (some (ki,cap,Bt)) g:=⟨cr,cJ,dW⟩;refine bP ?_;have h0:=Ka g;have jc:((g.map de).length:Int)=(g.length:Int):=by rw [List.length_map]
  have hw:IntKind.wrap .i64 ((g.length:Int)-1)=(g.length:Int)-1:=e0 ai ai;refine af.cT [0,3,4] C I (σ:=Nat×List ad) (fun q=>[(5,.int .i64 ((q.1:Int)-1))]) (fun q=>u1 g ki cQ q.1 q.2) (fun q=>q.1≤g.length∧qq (some (ki,cap,q.2)) (hX g q.1)) (fun q=>q.1) (g.length,Bt) ⟨Nat.le_refl _,by rw [Kb];exact E7⟩ xR (by unfold u1;simp only [h0];exact bM) ?_;rintro ⟨j8,cs⟩ ⟨hm,fc⟩ I;simp only [u1] at hm fc I ⊢;cases j8 with
  | zero=>
    have E8:e4 g 0=(b4 0 g).1:=by unfold e4;simp
    obtain ⟨wK,qx⟩:=mw g 0;rw [E8] at I ⊢;refine Dn ?_;refine af.sl I 3 cQ C a1 (by rw [List.length_map];exact wK) (Nat.le_refl _) ai (by rw [List.take_of_length_le (by rw [List.length_map,wK];exact Nat.le_refl _)];simp [List.all_map,bg];intros;rfl) (fun I=>?_);rw [List.take_of_length_le (by rw [List.length_map,wK];exact Nat.le_refl _)];refine bP ?_;exact Fin.bH I C aR .nil ⟨rfl,rfl⟩
  | succ m=>
  have aG:m<g.length:=hm;have nm:(((m+1:Nat):Int)-1)=(m:Int):=by omega
  obtain ⟨x,ab,ch⟩:=cD (f:=de) aG;have aF:=ER ao ab;have wL:(hX g (m+1))[m]? = some x:=by rw [J2 g ai hm,ab]
  have nV:=yS g hm;simp only [nm] at I ⊢;unfold de fj bI at ch;refine bP ?_;refine af.tW (σ:=List ad) (fun _=>[(0,.aA 4 (g.map de) .bd),(3,dG cQ g.length g.length),(4,dG ki g.length cap),(5,.int .i64 (m:Int))]) (fun cs'=>u1 g ki cQ (m+1) cs') (fun cs'=>qq (some (ki,cap,cs')) ((hX g (m+1)).set m (jX g m x))) ?_ ?_
  · refine af.cond C (fun aV=>?_) (fun aV=>?_)
    · have aV:x.atom≥0:=by simpa using aV
      obtain ⟨vt,tm,Kj,Kk⟩:=ao.eo m x ab aV
      have gz:=fun (z:Int) (U:(m:Int)<z) (ae:z<g.length)=>(show ((e4 g (m+1)).map bg)[z.toNat*1]? = some (.int .i64 ((e4 g (m+1)).getD z.toNat 0)) from by
        rw [Nat.mul_one,List.getElem?_map,List.getD_eq_getElem?_getD,List.getElem?_eq_getElem (by rw [wG g hm];omega)];rfl)
      have oD:=sQ (k:=1) (v := .int .i64 ((e4 g (m+1)).getD x.no.toNat 0)) (kh _) fc.2.2 (by rw [List.getElem?_map,wL];rfl) ai
      have m2:=sQ (k:=2) (v := .int .i64 ((e4 g (m+1)).getD x.yes.toNat 0)) (fun c aE=>by
        rcases List.mem_or_eq_of_mem_set aE with aE|rfl
        · exact kh _ c aE
        · rfl) oD.2 (List.getElem?_set_self (by rw [List.length_map,yS g hm];omega)) ai
      have sV:jX g m x={ x with no:=(e4 g (m+1)).getD x.no.toNat 0,yes:=(e4 g (m+1)).getD x.yes.toNat 0 }:=by unfold jX;rw [if_pos aV]
      have eU:m*4+3≤cs.length:=by rw [fc.1];have:=fc.2.1;omega
      refine af.p8 I cQ a1 ak mixed C ?_;refine cH ?_;refine aM.e7 ak x.no.toNat C C C C C C C C C ai ai ?_;refine aM.mJ ak C C C C C C (lL C (gz x.no vt tm)) ?_;refine cH ?_;refine aM.e7 ak x.yes.toNat C C C C C C C C C ai ai ?_;refine aM.mJ ak C C C C C C (lL C (gz x.yes Kj Kk)) ?_;refine aM.e7 ak m C C C C C C C C C C ai ?_;refine jb ?_;refine aM.Kq ak I _ C C C C C C C C C C a1 (by show m*4+1+1≤_;omega) C a1 (fun I=>?_);refine aM.e7 ak m C C C C C C C C C C ai ?_;refine jb ?_;refine aM.kF ak I _ C C C C C C C C C C a1 (by rw [oD.1];show m*4+2+1≤_;omega) C (fun I=>?_);skip
      exact jN.mk _ I ⟨m2.1.trans (oD.1.trans fc.1),by rw [List.length_set];exact fc.2.1,by
        rw [List.length_set]
        refine m2.2.trans ?_
        rw [List.set_set,List.map_set,sV]
        rfl⟩ (c3 C) (by simp only [u1];repeat (first|exact au.nil|(apply au.cons;· repeat (first|exact aP.here|apply aP.there))))
    · have aV:¬ x.atom≥0:=by simpa using aV
      have sV:jX g m x=x:=by unfold jX;rw [if_neg aV]
      refine gi ?_;exact jN.mk cs I (by rw [sV,fu wL];exact fc) (c3 C) (by simp only [u1];repeat (first|exact au.nil|(apply au.cons;· repeat (first|exact aP.here|apply aP.there))))
  intro cs' qz I;generalize yq:jX g m x=y at qz aF;have m2:(b4 (m+1) (g.drop (m+1))).2.length=g.length-(m+1):=by rw [(mw _ _).2,List.length_drop]
  have Fa:∀ j,((hX g (m+1)).set m y)[m+1+j]? = (b4 (m+1) (g.drop (m+1))).2[j]? := fun j=>by
    rw [List.getElem?_set_ne ai,J1 g hm]
  have Fb:((hX g (m+1)).set m y)[m]? = some y:=List.getElem?_set_self ai;have Bv:(hX g (m+1)).set m y=hX g m:=J3 aG aF C;have Jm:(g.length:Int)-1=((m+(g.length-1-m):Nat):Int):=by omega
  have gC:=wG g hm;generalize qA:k7 (jY g m y) 0 (b4 (m+1) (g.drop (m+1))).2=qB at aF;have sW:(e4 g (m+1)).set m (m4 m qB 0)=e4 g m:=by
    rw [← ES aF C];refine congrArg _ ?_;cases qB with
    | none=>rfl
    | some j=>rw [m4,if_pos (Nat.zero_le _)]
  have S1:m4 m qB (g.length-1-m)=(m:Int):=SZ (fun j h=>by
    rw [h] at qA
    have:=(wF qA).2.1
    omega)
  have q9:∀ (v eK:Int),eg (m*1) [.int .i64 eK] (((e4 g (m+1)).set m v).map bg)=((e4 g (m+1)).set m eK).map bg:=fun v eK=>by
    rw [ru,Nat.mul_one,← List.set_set (b:=eK) (a:=v),List.map_set (l:=(e4 g (m+1)).set m v)];rfl
  have S2:eg (m*1) [.int .i64 (m:Int)] ((e4 g (m+1)).map bg)=((e4 g (m+1)).set m (m4 m qB (g.length-1-m))).map bg:=by
    rw [ru,Nat.mul_one,S1,List.map_set];rfl
  unfold u1 at I ⊢;refine k3 ?_;refine aa.e7 ak m C C C C C C C C C C ai ?_;refine aa.kF ak I _ C C C C C C C C C a1 (by rw [List.length_map,gC];show m*1+1≤_;omega) S2 (fun I=>?_);refine bP ?_;refine af.cT [0,3,4,5] C I (σ:=Nat) (fun c=>[(6,.int .i64 ((m+c:Nat):Int))]) (fun c=>[(.own ki,.box 69 cs'),(.own cQ,.box 3 (((e4 g (m+1)).set m (m4 m qB c)).map bg))]) (fun c=>m+c<g.length) (fun c=>c) (g.length-1-m) ai Jl bM ?_;rintro c aE I
  try simp only at aE I ⊢
  cases c with
  | zero=>
    rw [sW] at I ⊢;refine cL ?_;refine af.cond C (fun h=>by simp at h) (fun _=>?_);refine bP ?_;exact bX.mk (m,cs') I ⟨by omega,by rw [← Bv];exact qz⟩ sj bM sG
  | succ c=>
    have cE:c<(b4 (m+1) (g.drop (m+1))).2.length:=by omega
    obtain ⟨z,bE⟩:∃ z,(b4 (m+1) (g.drop (m+1))).2[c]? = some z:=⟨_,List.getElem?_eq_getElem cE⟩;have yX:=Fa c;rw [bE] at yX;have gz:(((e4 g (m+1)).set m (m4 m qB (c+1))).map bg)[(m+1+c)*1]? = some (.int .i64 ((b4 (m+1) (g.drop (m+1))).1.getD c 0)):=by
      rw [← yT,Nat.mul_one,List.getElem?_map,List.getElem?_set_ne ai,List.getD_eq_getElem?_getD,List.getElem?_eq_getElem ai];rfl
    have kO:jY g m y c z=((b4 (m+1) (g.drop (m+1))).1.getD c 0==((m+1+c:Nat):Int)&&z==y):=rfl;obtain ⟨dU,jT,sT⟩:=yU _ _ _ _ bE;have lv:=ao.ms dU (List.mem_of_mem_drop jT);have gN:=ao.ms x (List.mem_of_getElem? ab);have sa:=J4 g m x;rw [yq] at sa;have ri:=Ko z y (by rw [sT];omega) (by rw [sa];omega);have Jj:(((m+(c+1):Nat):Int)-1)=((m+c:Nat):Int):=by omega
    have m3:((m+1+c:Nat):Int)=((m+(c+1):Nat):Int):=by omega
    refine cL ?_;refine af.cond C (fun _=>?_) (fun h=>by simp at h;omega);refine n8 ?_;refine aM.e7 ak (m+1+c) C C C C C C C C C ai ai ?_;refine aM.kE ak I C C C C C C a1 C gz ?_;refine jb ?_;by_cases cr:(b4 (m+1) (g.drop (m+1))).1.getD c 0=((m+(c+1):Nat):Int);rotate_left
    · refine aM.split 68 C (fun h=>absurd gn cr) (fun _=>?_)
      have h4:jY g m y c z=false:=by rw [kO,m3,show ((b4 (m+1) (g.drop (m+1))).1.getD c 0==((m+(c+1):Nat):Int))=false from beq_eq_false_iff_ne.2 cr,Bool.false_and]
      have jZ:qB≠some c:=fun h=>by
        rw [h] at qA;obtain ⟨-,-,Cw,kG,ns⟩:=wF qA;rw [Nat.sub_zero,bE] at kG;cases kG;rw [h4] at ns;cases ns
      have mE:=Kr (m:=m) jZ;refine cy ?_;exact bX.mk c I (by show m+c<g.length;omega) sF (by simp only [mE];exact bM) sH
    refine aM.split 68 C (fun _=>?_) (fun h=>absurd cr gn);rw [m3,show ((b4 (m+1) (g.drop (m+1))).1.getD c 0==((m+(c+1):Nat):Int))=true from beq_iff_eq.2 cr,Bool.true_and] at kO;refine jb ?_;refine aM.e7 ak (m+1+c) C C C C C C C C C ai ai ?_;refine aM.dS ak I C C C C C C a1 (Bg C (kh _) qz.2.2 (by rw [List.getElem?_map,yX];rfl)) ?_;refine jb ?_;refine aM.e7 ak m C C C C C C C C C C ai ?_;refine aM.dS ak I C C C C C C a1 (Bg C (kh _) qz.2.2 (by rw [List.getElem?_map,Fb];rfl)) ?_;cases mq:z==y with
    | false=>
      have h4:jY g m y c z=false:=by rw [kO,mq]
      rw [mq] at ri;have jZ:qB≠some c:=fun h=>by
        rw [h] at qA;obtain ⟨-,-,Cw,kG,ns⟩:=wF qA;rw [Nat.sub_zero,bE] at kG;cases kG;rw [h4] at ns;cases ns
      have mE:=Kr (m:=m) jZ;refine cy ?_;exact bX.mk c I (by show m+c<g.length;omega) sF (by simp only [mE];exact bM) sH
    | true=>
      have h4:jY g m y c z=true:=by rw [kO,mq]
      rw [mq] at ri;have wN:qB=some c:=by
        cases aD:qB with
        | none=>
          rw [aD] at qA;have:=EP qA c z bE;rw [Nat.zero_add,h4] at this;cases this
        | some j=>
          rw [aD] at qA;obtain ⟨-,-,Cw,kG,ns⟩:=wF qA;rw [Nat.sub_zero] at kG;rw [SX kG bE ns h4]
      have mE:=SY (m:=m) wN;rw [m3] at mE;refine cH ?_;refine aa.e7 ak m C C C C C C C C C C ai ?_;refine aa.kF ak I _ C C C C C C C C C a1 (by rw [List.length_map,List.length_set,gC];show m*1+1≤_;omega) (q9 _ _) (fun I=>?_);refine h8 ?_;exact bX.mk c I (by show m+c<g.length;omega) sF (by simp only [mE];exact bM) sH
end Go.Proofs.YtnafpeohfbglmaaGreat
namespace Go.bY
theorem Fc:∀ (k:Nat) (l:List bC) (i:Nat),(b4 i l).1.drop k=(b4 (i+k) (l.drop k)).1∧(b4 i l).2.drop k=(b4 (i+k) (l.drop k)).2
  | 0,l,i=>⟨rfl,rfl⟩
  | k+1,[],i=>by rw [b4,List.drop_nil,List.drop_nil,b4];exact ⟨rfl,rfl⟩
  | k+1,x::r,i=>by
    have:=Fc k r (i+1);rw [b4,List.drop_succ_cons];simp only [List.drop_succ_cons];rw [show i+(k+1)=i+1+k by omega];exact this
def lU (one:List Int) (x:bC):bC:=if x.atom≥0 then { x with no:=one.getD x.no.toNat 0,yes:=one.getD x.yes.toNat 0 } else x
theorem Ks (g:List bC) {m z:Nat} (h:m≤z):(e4 g m).getD z 0=(b4 0 g).1.getD z 0:=by
 have e:=yT g m (z-m);rw [show m+(z-m)=z by omega] at e;have d:=(Fc m g 0).1;rw [Nat.zero_add] at d;rw [e,← d,List.getD_eq_getElem?_getD,List.getD_eq_getElem?_getD,List.getElem?_drop,show m+(z-m)=z by omega]
theorem Fe {g:List bC} (ao:oz g) {a:Nat} {x:bC} (ab:g[a]? = some x):(b4 0 g).2[a]? = some (lU (b4 0 g).1 x):=by
 have U:=ER ao ab;have d:=(Fc a g 0).2;rw [Nat.zero_add,U] at d;have ae:((b4 0 g).2.drop a)[0]? = some (jX g a x):=by rw [d];rfl
 rw [List.getElem?_drop,Nat.add_zero] at ae;rw [ae];congr 1;unfold jX lU;split
 ·rename_i h
  have:=ao.eo a x ab h;rw [Ks g ai,Ks g ai]
 ·rfl
theorem u2 {g:List bC} (ao:oz g) {b:Nat} (an:b<g.length):∃ a:Nat,(b4 0 g).1[b]? = some (a:Int)∧b≤a∧a<g.length:=by
 have aI:=(mw g 0).1;have nT:=EO (n:=g.length) g 0 ai (fun k x ab aV=>by have:=ao.eo k x ab aV;rw [Nat.zero_add];exact this);have h:=(nT b an).1;obtain ⟨v,av⟩:∃ v,(b4 0 g).1[b]? = some v:=⟨_,List.getElem?_eq_getElem ai⟩;rw [List.getD_eq_getElem?_getD,av,Option.getD_some] at h;exact ⟨v.toNat,by rw [av,show ((v.toNat:Nat):Int)=v by omega],by omega,by omega⟩
theorem Ff {g:List bC} (ao:oz g):Down (b4 0 g).2:=fun i x ab aV=>by
 obtain ⟨U,ae⟩:=mw g 0;have ql:=(List.getElem?_eq_some_iff.1 ab).1;obtain ⟨y,ay⟩:∃ y,g[i]? = some y:=⟨_,List.getElem?_eq_getElem ai⟩;have aC:=Fe ao ay;rw [ab] at aC;cases aC;unfold lU at aV ⊢;by_cases h:y.atom≥0
 ·rw [if_pos h]
  obtain ⟨d1,d2,d3,d4⟩:=ao.eo i y ay h;obtain ⟨a,S3,Fg,Xn⟩:=u2 ao (b:=y.no.toNat) ai;obtain ⟨c,qo,uY,Xo⟩:=u2 ao (b:=y.yes.toNat) ai;simp only;rw [List.getD_eq_getElem?_getD,S3,List.getD_eq_getElem?_getD,qo];simp only [Option.getD_some];omega
 ·rw [if_neg h] at aV
  exact absurd aV h
end Go.bY
