import Derived.Test.YtnafpeohfbglmaaGreatQe
import Derived.Shelf.Sort.Plain
import Derived.KernelRfl
set_option linter.unusedVariables false
set_option linter.unusedSimpArgs false
set_option maxRecDepth 100000
set_option maxHeartbeats 4000000
open List (Perm append_assoc append_nil append_of_mem cons_append contains_iff_mem drop_zero filter_cons findIdx?_eq_none_iff flatMap_cons foldl_cons getD_eq_getElem?_getD getElem?_append_left getElem?_eq_getElem getElem?_map getElem?_take getElem_mem length_append length_cons length_drop length_map length_nil length_replicate length_set length_take map_append map_set mem_append mem_append_left mem_cons mem_cons_of_mem mem_cons_self mem_filter mem_map mem_of_getElem? mem_singleton nil_append perm_middle range replicate take_append_drop take_left' take_length take_of_length_le take_zero)
open Nat (mul_one not_lt_zero or_lt_two_pow sub_self succ_mul zero_add zero_le)
open Bool (eq_false_iff false_eq_true)
open Int (toNat_natCast)
open Option (bind_none bind_some getD_some)
open Array (length_toList)
theorem Mj {p:Prop} (h:p:=by repeat (first|exact trivial|refine ⟨⟨_,rfl,aL⟩,?_⟩|refine ⟨⟨_,rfl,aS.of_eq (by (rw [jD (by omega)];rfl))⟩,?_⟩)):p:=h
theorem Dm {p:Prop} (h:p:=by repeat (first|exact trivial|refine ⟨⟨_,rfl,aL⟩,?_⟩|refine ⟨⟨_,rfl,aS.of_eq (by (rw [j']))⟩,?_⟩)):p:=h
theorem Dn {p:Prop} (h:p:=by repeat (first|exact aH.all _|(apply aH.cons;· repeat (first|exact bp.here|apply bp.there)))):p:=h
theorem GY {p:Prop} (h:p:=by show (σ (bs arg path)).bo.length-(j+1)<(σ (bs arg path)).bo.length-j;omega):p:=h
theorem GZ {p:Prop} (h:p:=by rw [List.take_left' (by simp),List.all_map];simp [Function.comp_def,ba,e7]):p:=h
theorem G0 {p:Prop} (h:p:=by show er.parents.length-(k+1)<er.parents.length-k;omega):p:=h
theorem pS {p:Prop} (h:p:=by show x.kids.length-(j+1)<x.kids.length-j;omega):p:=h
theorem Dp {p:Prop} (h:p:=by show g.length-y<g.length-j;omega):p:=h
theorem tc {p:Prop} (h:p:=by rw [List.length_map];omega):p:=h
theorem rN {p:Prop} (h:p:=by simpa using az):p:=h
theorem uC {p:Prop} (h:p:=by simpa using dd):p:=h
theorem wE {p:Prop} (h:p:=by simpa using a7):p:=h
namespace Go.Proofs.YtnafpeohfbglmaaGreat
open Go.Shelf Go.Sort Go.Proofs
def Vu:Go.Shelf.Ren:=⟨fun|189=>276|125=>290|257=>289|128=>303|129=>304|294=>294|295=>295|296=>296|297=>297|298=>298|299=>299|216=>300|300=>301|301=>302|328=>309|329=>310|330=>311|331=>312|332=>313|215=>314|343=>317|n=>n,fun|28=>23|3=>3|46=>303|0=>0|51=>329|53=>104|4=>4|183=>356|182=>355|131=>164|5=>5|9=>9|218=>363|222=>251|228=>368|229=>126|n=>n,fun n=>n⟩
theorem Vv:Lays.n189 Tryz.prog Vu where
 mixed:=by kernel_rfl
 f125 := Tryz.func290.trans (congrArg some fY)
 f128 := Tryz.func303.trans (congrArg some fY)
 f129 := Tryz.func304.trans (congrArg some fY)
 f189 := Tryz.func276.trans (congrArg some fY)
 f215 := Tryz.func314.trans (congrArg some fY)
 f216 := Tryz.func300.trans (congrArg some fY)
 f257 := Tryz.func289.trans (congrArg some fY)
 f294 := Tryz.func294.trans (congrArg some fY)
 f295 := Tryz.func295.trans (congrArg some fY)
 f296 := Tryz.func296.trans (congrArg some fY)
 f297 := Tryz.func297.trans (congrArg some fY)
 f298 := Tryz.func298.trans (congrArg some fY)
 f299 := Tryz.func299.trans (congrArg some fY)
 f300 := Tryz.func301.trans (congrArg some fY)
 f301 := Tryz.func302.trans (congrArg some fY)
 f328 := Tryz.func309.trans (congrArg some fY)
 f329 := Tryz.func310.trans (congrArg some fY)
 f330 := Tryz.func311.trans (congrArg some fY)
 f331 := Tryz.func312.trans (congrArg some fY)
 f332 := Tryz.func313.trans (congrArg some fY)
 f343 := Tryz.func317.trans (congrArg some fY)
 t0 := Tryz.underlying0
 a0 := Tryz.isAgg0
 z0 := Tryz.sizeOf0
 v0 := Tryz.zeroValue0
 t3 := Tryz.underlying3
 a3 := Tryz.isAgg3
 z3 := Tryz.sizeOf3
 v3 := Tryz.zeroValue3
 t4 := Tryz.underlying4
 a4 := Tryz.isAgg4
 z4 := Tryz.sizeOf4
 v4 := Tryz.zeroValue4
 t5 := Tryz.underlying5
 a5 := Tryz.isAgg5
 z5 := Tryz.sizeOf5
 v5 := Tryz.zeroValue5
 t9 := Tryz.underlying9
 a9 := Tryz.isAgg9
 z9 := Tryz.sizeOf9
 v9 := Tryz.zeroValue9
 t28 := Tryz.underlying23
 a28 := Tryz.isAgg23
 z28 := Tryz.sizeOf23
 v28 := Tryz.zeroValue23
 t46 := Tryz.underlying303
 a46 := Tryz.isAgg303
 z46 := Tryz.sizeOf303
 v46 := Tryz.zeroValue303
 t51 := Tryz.underlying329
 a51 := Tryz.isAgg329
 z51 := Tryz.sizeOf329
 v51 := Tryz.zeroValue329
 t53 := Tryz.underlying104
 a53 := Tryz.isAgg104
 z53 := Tryz.sizeOf104
 v53 := Tryz.zeroValue104
 t131 := Tryz.underlying164
 a131 := Tryz.isAgg164
 z131 := Tryz.sizeOf164
 v131 := Tryz.zeroValue164
 t182 := Tryz.underlying355
 a182 := Tryz.isAgg355
 z182 := Tryz.sizeOf355
 v182 := Tryz.zeroValue355
 t183 := Tryz.underlying356
 a183 := Tryz.isAgg356
 z183 := Tryz.sizeOf356
 v183 := Tryz.zeroValue356
 t218 := Tryz.underlying363
 a218 := Tryz.isAgg363
 z218 := Tryz.sizeOf363
 v218 := Tryz.zeroValue363
 t222 := Tryz.underlying251
 a222 := Tryz.isAgg251
 z222 := Tryz.sizeOf251
 v222 := Tryz.zeroValue251
 t228 := Tryz.underlying368
 a228 := Tryz.isAgg368
 z228 := Tryz.sizeOf368
 v228 := Tryz.zeroValue368
 t229 := Tryz.underlying126
 a229 := Tryz.isAgg126
 z229 := Tryz.sizeOf126
 v229 := Tryz.zeroValue126
theorem Vw (rv off cap:Nat) (aY:List Int) (w:World) (FK:Holds (Value.int .i64) w rv off aY.toArray) (Vx:rv<w.heap.size) (b':aY.length<4611686018427387904) :
  Calls Tryz.prog 276 #[.slice (some ⟨rv,off,none⟩) aY.length cap] w fun e w'=>
   e = .returned (.tuple #[])∧∃ n os,w'=grow (putRow (Value.int .i64) (Sort.ahead w n) rv off (aY.mergeSort fun x y=>decide (x≤y)).toArray) os:=
 Any.slices_Sort_int Vv rv off cap aY w FK Vx b'
end Go.Proofs.YtnafpeohfbglmaaGreat
namespace Go.Proofs.YtnafpeohfbglmaaGreat
open Go.cU Go.eb
theorem Vy (w:World) (p:bR) (v:Value) (a:Int) (h:Rel w p v (.int .i64 a)):v = .int .i64 a:=by cases h;rfl
theorem G1 (b cap:Nat) (l:List Int) (rest:List af) (aB:l.length<4611686018427387904) :
  bE Tryz.prog 276 [eo b l.length cap] [(.own b,.box 3 (l.map ba++rest))] (fun o K=>o = .ret (.cp [])∧K=[(.own b,.box 3 ((l.mergeSort fun x y=>decide (x≤y)).map ba++rest))]):=
 bE.sort (α:=Int) (enc:=Value.int .i64) (encA:=ba) (le:=fun x y=>decide (x≤y)) call276 Vy (fun w p a => .int _ _) Vw b cap l rest aB
end Go.Proofs.YtnafpeohfbglmaaGreat
namespace Go.cU
theorem bp.AN {L:a8} {k:bL} {o:dC} {a b:a8} (h:L=a++(k,o)::b):bp L k o (a++b):=by
 subst h;exact bp.app a .here
theorem aH.ih:∀ {K L:a8},L.Perm K→aH L K []
  | [],L,h=>by
    have:L=[]:=h.eq_nil;subst this;exact .nil
  | (k,o)::K,L,h=>by
    obtain ⟨a,b,iC⟩:=append_of_mem (h.symm.subset mem_cons_self);refine .cons (bp.AN iC) (aH.ih ?_);rw [iC] at h;exact (List.perm_cons _).1 (perm_middle.symm.trans h)
theorem Mk (s:ao) (L:a8):∀ (rO:a8),(∀ x∈rO,x.1 = .nil)→aT s (rO++L)=aT s L∧(Ok s L→Ok s (rO++L))
  | [],_=>⟨rfl,id⟩
  | (k,o)::rO,h=>by
    have aE:k = .nil:=h (k,o) mem_cons_self;subst aE;obtain ⟨U,ad⟩:=Mk s L rO fun x ab=>h x (mem_cons_of_mem _ ab)
    exact ⟨U,fun I=>⟨trivial,ad I⟩⟩
theorem bE.frame {P:Program} {f:FuncId} {args:List af} {K L R:a8} {acs D:ey→a8→Prop} (h:bE P f args K acs) (ar:aH L K R) (e0:∀ o aO,acs o aO→∃ rO M,(∀ x∈rO,x.1 = .nil)∧(rO++(aO++R)).Perm M∧D o M):bE P f args L D:=
 fun s I=>(h.at I ar).mono fun o aj ⟨Ts,e,xZ,aO,Gk,Gl⟩=>by
  subst Gk;obtain ⟨rO,M,Vz,aD,e8⟩:=e0 o aO Gl;obtain ⟨kQ,Dk⟩:=Mk s (aO++R) rO Vz;obtain ⟨U,ad⟩:=(aH.ih aD).perm (Dk xZ);rw [append_nil] at U ad;exact ⟨M,e.trans (kQ.symm.trans U),ad,e8⟩
end Go.cU
namespace Go.Proofs.YtnafpeohfbglmaaGreat
open Go.cU Go.eb
abbrev qP:=Option (Nat×Nat×List af)
def kV:qP→List Int→af
 | none,_ => .aA 0 [] .nil
 | some (g,cap,_),l=>eo g l.length cap
def jH:qP→List Int→a8
 | none,_=>[]
 | some (g,_,ea),l=>[(.own g,.box 3 (l.map ba++ea))]
def rP:qP→List Int→Prop
 | none,l=>l=[]
 | some (_,cap,ea),l=>l.length+ea.length=cap
structure fQ where
 sp:List Int
 b:Nat
 on:bL
 bB:qP
def iE (σ:dT) (e:fQ):a8:=oV e.b (σ e.sp) e.on (kV e.bB (σ e.sp).bo)++jH e.bB (σ e.sp).bo
def mR (es:List fQ):SMap:=es.map fun e=>(e.sp,.ptr e.b 0)
def lS (σ:dT) (mb:Nat) (es:List fQ):a8:=qO mb (mR es)::es.flatMap (iE σ)
structure ml (n:Nat) (k:dk):Prop where
 fP:k.fP<2^64
 no:k.no<2^64
 eX:k.eX.length≤n
 bo:k.bo.length≤n
 num : -1000000000≤k.low∧k.low≤1000000000 ∧ -1000000001≤k.high∧k.high≤1000000000
structure oW (n:Nat) (σ:dT) (es:List fQ):Prop where
 four:∀ e∈es,e.sp.length=4
 nodup:(es.map fQ.sp).Nodup
 rest:∀ q,q∉es.map fQ.sp→σ q=iT
 bB:∀ e∈es,rP e.bB (σ e.sp).bo
 mm:∀ q,ml n (σ q)
theorem VA {es:List fQ} {sp:List Int}:(mR es).find? (fun e=>e.1==sp)=none↔sp∉es.map fQ.sp:=by
 unfold mR;rw [List.find?_eq_none];constructor
 ·intro h hm
  obtain ⟨e,he,rfl⟩:=mem_map.1 hm;have:=h _ (mem_map.2 ⟨e,he,rfl⟩);simp at this
 ·intro h x ab
  obtain ⟨e,he,rfl⟩:=mem_map.1 ab;simp only [beq_iff_eq];intro bY;exact h (mem_map.2 ⟨e,he,bY⟩)
theorem VB {es:List fQ} {sp:List Int} {x:List Int×af} (h:(mR es).find? (fun e=>e.1==sp)=some x):∃ e∈es,e.sp=sp∧x=(e.sp,.ptr e.b 0):=by
 unfold mR at h;have U:=List.mem_of_find?_eq_some h;have ad:=List.find?_some h;obtain ⟨e,he,rfl⟩:=mem_map.1 U;exact ⟨e,he,by simpa using ad,rfl⟩
theorem VC (n:Nat):ml n iT:=⟨by decide,by decide,by simp [iT],by simp [iT],by simp [iT]⟩
theorem Ml (w:bx) (mb n:Nat) (σ:dT) (es:List fQ) (cF:oW n σ es) (hE ef di dL:Int) :
    bE Tryz.prog 280 [h1 w mb,iD [hE,ef,di,dL]] (lS σ mb es) (fun o K=>∃ pre e post,e.sp=[hE,ef,di,dL]∧o = .ret (.ptr e.b 0)∧K=lS σ mb (pre++e::post)∧oW n σ (pre++e::post)):=by
  have h:=Mf (.aA 1 [] .nil) (.aA 0 [] .nil) (aS.nil gW) aL w mb (mR es) (fun e he=>by
    unfold mR at he
    obtain ⟨x,ab,rfl⟩:=mem_map.1 he
    exact cF.four x ab) hE ef di dL
  refine bE.frame h (R:=es.flatMap (iE σ)) (.cons .here .nil) ?_;rintro o aO (⟨x,ab,rfl,rfl⟩|⟨a6,b,rfl,rfl⟩)
  · obtain ⟨e,he,U,rfl⟩:=VB ab
    obtain ⟨pre,post,rfl⟩:=append_of_mem he;exact ⟨[],_,by simp,Perm.refl _,pre,e,post,U,rfl,rfl,cF⟩
  · have lu:=VA.1 a6
    have Aw:=cF.rest _ lu;refine ⟨[(.nil,.row 3 1 0)],lS σ mb (es++[⟨[hE,ef,di,dL],b,.nil,none⟩]),by simp,?_,es,⟨[hE,ef,di,dL],b,.nil,none⟩,[],rfl,rfl,rfl,?_⟩
    · have cg:iE σ ⟨[hE,ef,di,dL],b,.nil,none⟩=[(.own b,.box 340 Me),(.nil,.row 3 1 0)]:=by
        unfold iE;rw [Aw];rfl
      unfold lS;rw [List.flatMap_append,List.flatMap_singleton,cg];have bY:mR (es++[⟨[hE,ef,di,dL],b,.nil,none⟩])=mR es++[([hE,ef,di,dL],.ptr b 0)]:=by unfold mR;rw [map_append];rfl
      rw [bY];refine (Perm.swap _ _ _).trans (Perm.cons _ ((Perm.swap _ _ _).trans ?_));exact List.perm_append_comm (l₁:=[(.own b,.box 340 Me),(.nil,.row 3 1 0)]) (l₂:=es.flatMap (iE σ))
    · refine ⟨fun e he=>?_,?_,fun q bq=>cF.rest q (fun hm=>bq (by rw [map_append];exact mem_append_left _ hm)),fun e he=>?_,cF.mm⟩
      · rcases mem_append.1 he with he|he
        · exact cF.four e he
        · rw [mem_singleton] at he;subst he;rfl
      · rw [map_append,List.nodup_append]
        refine ⟨cF.nodup,by simp,fun a a7 b aq=>?_⟩;rw [List.map_singleton,mem_singleton] at aq;subst aq;intro e;subst e;exact lu a7
      · rcases mem_append.1 he with he|he
        · exact cF.bB e he
        · rw [mem_singleton] at he;subst he
          show (σ _).bo=[];rw [Aw];rfl
theorem VD (_u:Unit):aR Tryz.prog 304 [.int .u64 0] (.int .i64 0):=by
 have aq:=bA;refine aR.bh ai Tryz.func304 C C fun s I=>?_
 refine bC ?_;refine aa.zs ai 0 C C C C C C C C dZ C ?_;refine bC ?_;exact bl I
theorem VE (_u:Unit):aR Tryz.prog 290 [.int .u64 0] (.int .i64 0):=by
 have aq:=bA;refine aR.bh ai Tryz.func290 C C fun s I=>?_
 have U:=VD ();refine bW ?_;exact bl I
theorem VF (_u:Unit):aR Tryz.prog 294 [.aA 0 [] .nil,.int .i64 0,.int .i64 0] (.cp []):=by
 have aq:=bA;refine aR.bh ai Tryz.func294 C C fun s I=>?_
 refine gm ?_;refine ae.b4 [1,2] C I (σ:=Unit) (fun _=>[(6,.int .i64 1)]) (fun _=>[]) (fun _=>True) (fun _=>0) () trivial (cq C) aX ?_;rintro _ _ I;refine bC ?_;exact bl I
theorem VG (_u:Unit):aR Tryz.prog 289 [.aA 0 [] .nil,.int .i64 0,.int .i64 0,.int .i64 0] (.cp []):=by
 have aq:=bA;refine aR.bh ai Tryz.func289 C C fun s I=>?_
 have U:=VF ();refine gm ?_;refine ae.b4 [0,1,2,3] C I (σ:=Unit) (fun _=>[]) (fun _=>[]) (fun _=>True) (fun _=>0) () trivial (cq C) aX ?_;rintro _ _ I;refine bW ?_;exact bl I
theorem VH (_u:Unit):aR Tryz.prog 276 [.aA 0 [] .nil] (.cp []):=by
 have aq:=bA;refine aR.bh ai Tryz.func276 C C fun s I=>?_
 have U:=VE ();have ad:=VG ();refine bW ?_;exact bl I
def qQ (fg:kd) (up:List Int):Prop:=∀ n,nZ fg n=if up.contains n then some (.bool true) else none
theorem qQ.put {fg:kd} {up:List Int} (h:qQ fg up) (x:Int):qQ (rJ fg x (.bool true)) (up++[x]):=fun n=>by
 rw [Gy,h n];by_cases e:n=x
 ·subst e;simp
 ·rw [if_neg e]
  have:(up++[x]).contains n=up.contains n:=by
   rw [Bool.eq_iff_iff];simp [e]
  rw [this]
theorem qQ.look {fg:kd} {up:List Int} (h:qQ fg up) (n:Int):iV (pF fg) (.int .i64 n)=some (if up.contains n then some (.bool true) else none):=by rw [ur,h n]
theorem AO (l:List Int):(l.map ba).all e7=true:=by rw [List.all_map];simp [Function.comp_def,ba,e7]
structure Mm (p:bP):Prop where
 kt:p.ck.length≤10
 each:∀ c∈p.ck,c.parents.length≤3∧c.bo.length≤4
theorem VI (p:bP) (aD:Mm p) (c:Nat) (aC:c<p.ck.length):aR Tryz.prog 256 [cA p,.int .i64 ((c:Int)+3)] (bf (oN p c)):=by
 have aq:=bA;refine aR.bh ai Tryz.func256 C C fun s I=>?_
 have s9:=aD.kt;unfold cA cL
 repeat (first|(refine rr ?_)|refine aa.jR I C C C C C C (fun b I=>?_)|(refine CG ?_))
 refine aa.rn I C C C C (fun mb I=>?_);refine dy ?_;refine aa.mE ai I C C (.inr C) C C C C C C aY C (uu ((c:Int)+3) (.bool true) []) (fun I=>?_);refine dF ?_;refine ae.b4 [2] C I (σ:=Nat×List Int×List Int×qP×kd) (fun q=>[(7,.int .i64 ((q.1:Int)+2)),(5,.map mb),(6,kV q.2.2.2.1 q.2.2.1)]) (fun q=>[(.own b,.box 27 (cL p)),(.own mb,.map (pF q.2.2.2.2))]++jH q.2.2.2.1 q.2.2.1)
  (fun q=>q.1≤c+1∧nV p.ck q.1 q.2.1 q.2.2.1=nV p.ck (c+1) [(c:Int)+3] []∧qQ q.2.2.2.2 q.2.1∧rP q.2.2.2.1 q.2.2.1∧q.2.2.1.length+4*q.1≤4*(c+1)) (fun q=>q.1) (c+1,[(c:Int)+3],[],none,[((c:Int)+3,.bool true)])
  ⟨Nat.le_refl _,rfl,fun n=>by unfold nZ;by_cases e:n=(c:Int)+3<;>simp [e],rfl,by simp⟩ ⟨⟨_,rfl,aS.of_eq cG⟩,⟨_,rfl,aL⟩,⟨_,rfl,aL⟩,trivial⟩ (by simp only [jH,append_nil,cL];exact aX) ?_
 rintro ⟨k,up,out,bB,fg⟩ ⟨aE,an,pM,df,gn⟩ I;simp only at aE an pM df gn I ⊢;unfold cL at I ⊢;refine hq ?_;refine ae.cond C (fun au=>?_) (fun aV=>?_);rotate_left
 ·have aV:k=0:=by simp at aV;omega
  subst aV;have an:out=nV p.ck (c+1) [(c:Int)+3] []:=an;have aF:oN p c=oM out:=by unfold oN;rw [← an]
  rw [aF];rcases bB with _|⟨g,cap,ea⟩
  ·have:out=[]:=df
   subst this;have U:=VH ();have ad:=GA [] .nil;have ad:=aR.args (show cR [.aA 0 [] .nil] [.aA 1 [] .nil] from .one (aS.nil gW)) ad;refine c1 ?_;rw [show oM []=[] by unfold oM;simp];exact Fin.cx I C aS.bb
  ·have kl:out.length+ea.length=cap:=df
   have U:=G1 g cap out ea ag;have ad:=GA ((oM out).map ba) .bb;simp only [jH,kV,cons_append,nil_append] at I ⊢;refine c1 ?_;refine aa.b3 rfl rfl rfl rfl rfl U I (.cons aY .nil) ?_ (fun _ _ ⟨h,_⟩ _=>by cases h);rintro _ _ ⟨⟨⟩,rfl⟩ I;simp only [cons_append,nil_append] at I ⊢;have e:((oM out).map ba++ea).take out.length=(oM out).map ba:=take_left' (by unfold oM;simp);have wF:(oM out).length=out.length:=by unfold oM;simp
   refine aa.run ai C (aa.nil ?_);refine b5 ?_;refine ae.ub I 6 g (cs:=(oM out).map ba++ea) C .here (by rw [length_append,length_map];omega) ag ag (by rw [e];exact AO _) (fun I=>?_);rw [e];refine c1 ?_;exact Fin.cx I C aS.bb
 have au:1≤k:=by simp at au;omega
 obtain ⟨i,rfl⟩:∃ i,k=i+1:=⟨k-1,by omega⟩;have kW:=pM.look ((i:Int)+3);have aw:nV p.ck (i+1) up out=if up.contains ((i:Int)+3) then nV p.ck i (up++(p.ck.getD i default).parents) (out++(p.ck.getD i default).bo) else nV p.ck i up out:=rfl
 rw [aw] at an;have Mn:(((i+1:Nat):Int)+2)=(i:Int)+3:=by omega
 rw [Mn];have td:i<p.ck.length:=by omega
 obtain ⟨er,cv,AP⟩:=b1 (f:=jc) td;have j7:p.ck.getD i default=er:=by rw [getD_eq_getElem?_getD,cv];rfl
 rw [j7] at an;obtain ⟨LK,hy⟩:=aD.each er (mem_of_getElem? cv);have dG:IntKind.wrap .i64 ((i:Int)+3-3)=(i:Int):=by rw [ek ag ag];omega
 have j':IntKind.wrap .i64 ((i:Int)+3-1)=(i:Int)+2:=by rw [ek ag ag];omega
 refine dF ?_;cases rQ:up.contains ((i:Int)+3) with
 | false=>
  rw [rQ] at an kW;simp only [false_eq_true,if_false] at an kW;refine aa.jr ai I C C C C C C C C C C (.there .here) C kW C ?_;refine c1 ?_;exact bn.mk (i,up,out,bB,fg) I ⟨by omega,an,pM,df,by show out.length+4*i≤4*(c+1);omega⟩ Dm (aH.dq _) (by show i<i+1;omega)
 | true=>
  rw [rQ] at an kW;simp only [if_true] at an kW;unfold jc mN bf at AP;refine aa.jr ai I C C C C C C C C C C (.there .here) C kW C ?_;refine cI I ?_;intro I;refine aa.idx ai i C C C C C C C C C C dG AP C ?_;refine dy ?_;rcases bB with _|⟨g,cap,ea⟩
  ·have bt:out=[]:=df
   by_cases G2:er.bo=[]
   ·refine aa.nK 28 (.aA 1 [] .bb) C (aS.of_eq (by rw [G2];rfl)) ?_
    refine aa.Gu ai C C C C C C C en C C C ?_;have wG:rP none (out++er.bo):=by rw [bt,G2];rfl
    refine cI I ?_;intro I;refine aa.idx ai i C C C C C C C C C C dG AP C ?_;refine dF ?_;refine ae.b4 [2,5,6,7,36,37] C I (σ:=Nat×kd) (fun q=>[(38,.int .i64 (q.1:Int))]) (fun q=>(.own mb,.map (pF q.2))::(.own b,.box 27 (cL p))::jH none (out++er.bo)) (fun q=>q.1≤er.parents.length∧qQ q.2 (up++er.parents.take q.1)) (fun q=>er.parents.length-q.1) (0,fg) ⟨zero_le _,by rw [take_zero,append_nil];exact pM⟩ (cq C) (.cons (.there .here) (.cons .here .nil)) ?_;rintro ⟨k,AQ⟩ ⟨ir,n4⟩ I;simp only [cL] at ir n4 I ⊢;refine hq ?_;refine ae.cond C (fun cz=>?_) (fun dr=>?_)
    ·have cz:k<er.parents.length:=by simpa using cz
     obtain ⟨x,ab,bJ⟩:=b1 (f:=ba) cz;unfold ba at bJ;refine dF ?_;refine aa.mE ai I C C (.inl C) C C C C C C .here C (uu _ _ _) (fun I=>?_);refine c1 ?_;exact bn.mk (k+1,_) I ⟨cz,by rw [iA ab,← append_assoc];exact n4.put x⟩ ca (aH.dq _) G0
    ·have dr:k=er.parents.length:=by simp at dr;omega
     subst dr;rw [take_length] at n4;refine c1 ?_;exact bn.mk (i,up++er.parents,out++er.bo,none,AQ) I ⟨by omega,an,n4,wG,by show (out++er.bo).length+4*i≤4*(c+1);rw [length_append];omega⟩ Dm (.cons (.there .here) (.cons .here (aH.dq _))) (by show i<i+1;omega)
   ·have xI:1≤er.bo.length:=by
     rcases bO:er.bo with _|⟨z,aY⟩
     ·exact absurd bO G2
     ·simp
    refine aa.Gs ai I C C C C C C C en C C C C C C (AO _) (by rw [length_map];exact xI) (by show _*8≤_;rw [length_map];omega) tc (fun aW cd cs' U ad al I=>?_)
    obtain ⟨ea,rfl⟩:∃ ea,cs'=(out++er.bo).map ba++ea:=⟨cs'.drop (er.bo.map ba).length,by
     have:=take_append_drop (er.bo.map ba).length cs'
     rw [al] at this
     rw [bt];exact this.symm⟩
    have wG:rP (some (aW,cd,ea)) (out++er.bo):=by show (out++er.bo).length+ea.length=cd;rw [length_append,length_map] at U;exact U
    refine aa.nK 29 (kV (some (aW,cd,ea)) (out++er.bo)) C (aS.of_eq (by show eo aW _ cd=eo aW _ cd;rw [bt,length_map];rfl)) ?_;refine cI I ?_;intro I;refine aa.idx ai i C C C C C C C C C C dG AP C ?_;refine dF ?_;refine ae.b4 [2,5,6,7,36,37] C I (σ:=Nat×kd) (fun q=>[(38,.int .i64 (q.1:Int))]) (fun q=>(.own mb,.map (pF q.2))::(.own b,.box 27 (cL p))::jH (some (aW,cd,ea)) (out++er.bo)) (fun q=>q.1≤er.parents.length∧qQ q.2 (up++er.parents.take q.1)) (fun q=>er.parents.length-q.1) (0,fg) ⟨zero_le _,by rw [take_zero,append_nil];exact pM⟩ (cq C) (.cons (.there (.there .here)) (.cons (.there .here) (.cons .here .nil))) ?_;rintro ⟨k,AQ⟩ ⟨ir,n4⟩ I;simp only [cL] at ir n4 I ⊢;refine hq ?_;refine ae.cond C (fun cz=>?_) (fun dr=>?_)
    ·have cz:k<er.parents.length:=by simpa using cz
     obtain ⟨x,ab,bJ⟩:=b1 (f:=ba) cz;unfold ba at bJ;refine dF ?_;refine aa.mE ai I C C (.inl C) C C C C C C .here C (uu _ _ _) (fun I=>?_);refine c1 ?_;exact bn.mk (k+1,_) I ⟨cz,by rw [iA ab,← append_assoc];exact n4.put x⟩ ca (aH.dq _) G0
    ·have dr:k=er.parents.length:=by simp at dr;omega
     subst dr;rw [take_length] at n4;refine c1 ?_;exact bn.mk (i,up++er.parents,out++er.bo,(some (aW,cd,ea)),AQ) I ⟨by omega,an,n4,wG,by show (out++er.bo).length+4*i≤4*(c+1);rw [length_append];omega⟩ Dm (.cons (.there .here) (.cons .here (aH.dq _))) (by show i<i+1;omega)
  ·have kl:out.length+ea.length=cap:=df
   refine aa.Gt (n:=out.length) (cap:=cap) (cs:=out.map ba++ea) ai I C C C C C C C en C C C C (.there (.there .here)) (by rw [length_append,length_map];exact kl) ag (by rw [take_left' a'];exact AO _) C C (AO _) (by show _*8≤_;rw [length_map];omega) tc (fun aW cd cs' U ad al I=>?_);rw [take_left' a'] at al
   obtain ⟨mS,rfl⟩:∃ ea,cs'=(out++er.bo).map ba++ea:=⟨cs'.drop (out.length+(er.bo.map ba).length),by
    have:=take_append_drop (out.length+(er.bo.map ba).length) cs'
    rw [al] at this
    rw [map_append];exact this.symm⟩
   have wG:rP (some (aW,cd,mS)) (out++er.bo):=by show (out++er.bo).length+mS.length=cd;rw [length_append,length_map] at U;exact U
   refine aa.nK 29 (kV (some (aW,cd,mS)) (out++er.bo)) C (aS.of_eq (by show eo aW _ cd=eo aW _ cd;rw [length_map,length_append])) ?_;refine cI I ?_;intro I;refine aa.idx ai i C C C C C C C C C C dG AP C ?_;refine dF ?_;refine ae.b4 [2,5,6,7,36,37] C I (σ:=Nat×kd) (fun q=>[(38,.int .i64 (q.1:Int))]) (fun q=>(.own mb,.map (pF q.2))::(.own b,.box 27 (cL p))::jH (some (aW,cd,mS)) (out++er.bo)) (fun q=>q.1≤er.parents.length∧qQ q.2 (up++er.parents.take q.1)) (fun q=>er.parents.length-q.1) (0,fg) ⟨zero_le _,by rw [take_zero,append_nil];exact pM⟩ (cq C) (.cons (.there (.there .here)) (.cons (.there .here) (.cons .here .nil))) ?_;rintro ⟨k,AQ⟩ ⟨ir,n4⟩ I;simp only [cL] at ir n4 I ⊢;refine hq ?_;refine ae.cond C (fun cz=>?_) (fun dr=>?_)
   ·have cz:k<er.parents.length:=by simpa using cz
    obtain ⟨x,ab,bJ⟩:=b1 (f:=ba) cz;unfold ba at bJ;refine dF ?_;refine aa.mE ai I C C (.inl C) C C C C C C .here C (uu _ _ _) (fun I=>?_);refine c1 ?_;exact bn.mk (k+1,_) I ⟨cz,by rw [iA ab,← append_assoc];exact n4.put x⟩ ca (aH.dq _) G0
   ·have dr:k=er.parents.length:=by simp at dr;omega
    subst dr;rw [take_length] at n4;refine c1 ?_;exact bn.mk (i,up++er.parents,out++er.bo,(some (aW,cd,mS)),AQ) I ⟨by omega,an,n4,wG,by show (out++er.bo).length+4*i≤4*(c+1);rw [length_append];omega⟩ Dm (.cons (.there .here) (.cons .here (aH.dq _))) (by show i<i+1;omega)
def Dq (b:Bool):ey:=if b then .ret (.cp []) else .panic s7
theorem gK {x:af} {b:Bool} (h:ey.ret x=Dq b):b=true∧x = .cp []:=by
 cases b with
 | true=>cases h;exact ⟨rfl,rfl⟩
 | false=>cases h
theorem gL {x:af} {b:Bool} (h:ey.panic x=Dq b):b=false∧x=s7:=by
 cases b with
 | true=>cases h
 | false=>cases h;exact ⟨rfl,rfl⟩
theorem gT (b:Bool):bE Tryz.prog 223 [.bool b] [] (fun o K=>K=[]∧o=Dq b):=by
 cases b with
 | true=>exact fun s I=>hd.mono (UC () s) (fun o aj ⟨U,ad⟩=>⟨[],ad,trivial,rfl,U⟩)
 | false=>exact bE.mono (UD ()) (fun o K ⟨U,ad⟩=>⟨ad,U⟩)
theorem G3 {cs:List fJ} (h:∀ c∈cs,c.bo.length≤4):∀ (k:Nat) (up out:List Int),(nV cs k up out).length≤out.length+4*k
  | 0,_,_=>Nat.le_refl _
  | k+1,up,out=>by
    rw [nV];split
    · have U:=G3 h k (up++(cs.getD k default).parents) (out++(cs.getD k default).bo)
      have ad:(cs.getD k default).bo.length≤4:=by
        rw [getD_eq_getElem?_getD];cases aC:cs[k]? with
        | none=>exact zero_le _
        | some c=>exact h c (mem_of_getElem? aC)
      rw [length_append] at U;omega
    · have:=G3 h k up out
      omega
theorem VJ (p:bP) (aD:fj p):bE Tryz.prog 222 [cA p] [] (fun o K=>K=[]∧o=Dq (oO p)):=by
 have aq:=bA;have aw:=LL p aD;have jF:(gY p).length=p.ck.length:=by unfold gY;simp
 have Dr:=Uh (gY p) (by rw [jF];exact aD.cls);have cF:oO p=(decide (p.ck.length≤10)&&((lh 0 p.ck==some p.bo)&&(mf (gY p)&&qz p 0 p.ck))):=rfl;refine bE.bh ai Tryz.func222 C C fun s I=>?_
 unfold cA cL at *;unfold c9 at *;refine dv ?_;refine aa.b3 C C C C C (gT _) I .nil ?_ ?_;rotate_left
 ·rintro _ _ ⟨rfl,h⟩ I
  obtain ⟨az,rfl⟩:=gL h;rw [nil_append] at I ⊢;exact Fin.e9 I aL .nil ⟨rfl,(by rw [cF,show decide (p.ck.length≤10)=false by simp at az ⊢;omega];rfl)⟩
 rintro _ _ ⟨rfl,h⟩ I;obtain ⟨U,rfl⟩:=gK h;rw [nil_append] at I ⊢;have U:p.ck.length≤10:=by simp at U;omega
 rw [show decide (p.ck.length≤10)=true by simpa using U,Bool.true_and] at cF;refine bC ?_;refine ae.b4 [1,22,23] C I (σ:=Nat×Nat) (fun q=>[(24,.int .i64 (q.1:Int)),(2,.int .i64 (q.2:Int))]) (fun _=>[]) (fun q=>q.1≤p.ck.length∧lh 0 p.ck=lh (q.2:Int) (p.ck.drop q.1)∧q.2≤4*q.1) (fun q=>p.ck.length-q.1) (0,0) ⟨zero_le _,rfl,Nat.le_refl _⟩ (cq C) aX ?_;rintro ⟨j,n⟩ ⟨aK,an,G4⟩ I;simp only at aK an G4 I ⊢;refine b7 ?_;refine ae.cond C (fun au=>?_) (fun aV=>?_)
 ·have au:j<p.ck.length:=by simpa using au
  obtain ⟨c,ay,da⟩:=b1 (f:=jc) au;rw [drop_cons ay,lh] at an;unfold jc mN bf at da;refine ej ?_;refine aa.b3 C C C C C (gT _) I .nil ?_ ?_;rotate_left
  ·rintro _ _ ⟨rfl,h⟩ I
   obtain ⟨az,rfl⟩:=gL h;rw [nil_append] at I ⊢;exact Fin.e9 I aL .nil ⟨rfl,(by rw [if_neg (by simp at az;omega)] at an;rw [cF,an];rfl)⟩
  rintro _ _ ⟨rfl,h⟩ I;obtain ⟨ad,rfl⟩:=gK h;rw [nil_append] at I ⊢;have ad:c.bo.length≤4:=by simp at ad;omega
  rw [if_pos ad] at an;refine bC ?_;refine ae.b4 [1,22,23,24,34,35] C I (σ:=Nat×Nat) (fun q=>[(36,.int .i64 (q.1:Int)),(2,.int .i64 (q.2:Int))]) (fun _=>[]) (fun q=>q.1≤c.bo.length∧ni (n:Int) c.bo=ni (q.2:Int) (c.bo.drop q.1)∧q.2≤n+q.1) (fun q=>c.bo.length-q.1) (0,n) ⟨zero_le _,rfl,Nat.le_refl _⟩ (cq C) aX ?_;rintro ⟨k,m⟩ ⟨aE,bg,Mo⟩ I;simp only at aE bg Mo I ⊢;refine b7 ?_;refine ae.cond C (fun cz=>?_) (fun dr=>?_)
  ·have cz:k<c.bo.length:=by simpa using cz
   obtain ⟨x,ab,bJ⟩:=b1 (f:=ba) cz;rw [drop_cons ab,ni] at bg;unfold ba at bJ;refine dF ?_;refine aa.b3 C C C C C (gT _) I .nil ?_ ?_;rotate_left
   ·rintro _ _ ⟨rfl,h⟩ I
    obtain ⟨az,rfl⟩:=gL h;rw [nil_append] at I ⊢;exact Fin.e9 I aL .nil ⟨rfl,(by rw [if_neg rN] at bg;rw [bg] at an;rw [cF,an];rfl)⟩
   rintro _ _ ⟨rfl,h⟩ I;obtain ⟨al,rfl⟩:=gK h;rw [nil_append] at I ⊢;have al:x=(m:Int):=by simpa using al
   rw [if_pos al] at bg;refine fG ?_;exact bn.mk (k+1,m+1) I ⟨cz,by rw [bg];push_cast;rfl,by show m+1≤n+(k+1);omega⟩ (by repeat (first|exact trivial|refine ⟨⟨_,rfl,aL⟩,?_⟩|refine ⟨⟨_,rfl,aS.of_eq (by (first|rw [jD ag]|(rw [ek ag ag];push_cast;rfl)))⟩,?_⟩)) aX Db
  ·have dr:k=c.bo.length:=by simp at dr;omega
   subst dr;rw [ep (Nat.le_refl _),ni] at bg;rw [bg] at an;refine bC ?_;exact bn.mk (j+1,m) I ⟨au,an,by show m≤4*(j+1);omega⟩ ca aX x2
 have aV:j=p.ck.length:=by simp at aV;omega
 subst aV;rw [ep (Nat.le_refl _),lh] at an;rw [an] at cF;refine c1 ?_;cases G5:((n:Int)==p.bo) with
 | false=>
  have G6:(some (n:Int)==some p.bo)=false:=by rw [← G5];rfl
  rw [G6,Bool.false_and] at cF;refine eh ?_;refine aa.b3 C C C C C (gT _) I .nil ?_ ?_;rotate_left
  ·rintro _ _ ⟨rfl,h⟩ I
   obtain ⟨az,rfl⟩:=gL h;rw [nil_append] at I ⊢;exact Fin.e9 I aL .nil ⟨rfl,(by rw [cF];rfl)⟩
  rintro _ _ ⟨rfl,h⟩ I;obtain ⟨al,rfl⟩:=gK h;rw [nil_append] at I ⊢;cases al
 | true=>
 have G6:(some (n:Int)==some p.bo)=true:=by rw [← G5];rfl
 rw [G6,Bool.true_and] at cF;have df:=FZ an;cases yd:mf (gY p) with
 | false=>
  rw [yd,Bool.false_and] at cF;rw [yd] at Dr;simp only [false_eq_true,if_false] at Dr;refine c1 ?_;refine aa.b3 C C C C C (gT _) I .nil ?_ ?_;rotate_left
  ·rintro _ _ ⟨rfl,h⟩ I
   obtain ⟨az,rfl⟩:=gL h;rw [nil_append] at I ⊢;exact Fin.e9 I aL .nil ⟨rfl,(by rw [cF];rfl)⟩
  rintro _ _ ⟨rfl,h⟩ I;obtain ⟨al,rfl⟩:=gK h;rw [nil_append] at I ⊢;exact absurd al dZ
 | true=>
 rw [yd,Bool.true_and] at cF;rw [yd] at Dr;simp only [if_true] at Dr;have l7:=z8 yd
 have uw:Mm p:=⟨U,fun c aC=>⟨by
  obtain ⟨i,aQ⟩:=List.getElem?_of_mem aC
  exact (l7.par i c.parents (by unfold gY;rw [getElem?_map,aQ];rfl)).1,df c aC⟩⟩
 have ye:=fun c aC=>Ui (gY p) yd c aC
 unfold c9 at ye;refine c1 ?_;refine aa.b3 C C C C C (gT _) I .nil ?_ ?_;rotate_left
 ·rintro _ _ ⟨rfl,h⟩ I
  obtain ⟨az,rfl⟩:=gL h;rw [nil_append] at I ⊢;exact Fin.e9 I aL .nil ⟨rfl,(by exact absurd az dZ)⟩
 rintro _ _ ⟨rfl,h⟩ I;obtain ⟨al,rfl⟩:=gK h;rw [nil_append] at I ⊢;clear al;refine bC ?_;refine ae.b4 [1,7,61,62] C I (σ:=Nat) (fun j=>[(63,.int .i64 (j:Int))]) (fun _=>[]) (fun j=>j≤p.ck.length∧oO p=qz p j (p.ck.drop j)) (fun j=>p.ck.length-j) 0 ⟨zero_le _,cF⟩ (cq C) aX ?_;rintro j ⟨aK,an⟩ I;refine b7 ?_;refine ae.cond C (fun au=>?_) (fun aV=>?_);rotate_left
 ·have aV:j=p.ck.length:=by simp at aV;omega
  subst aV;rw [ep (Nat.le_refl _),qz] at an;refine dN ?_;exact Fin.bu I C aL .nil ⟨rfl,by rw [an];rfl⟩
 have au:j<p.ck.length:=by simpa using au
 obtain ⟨c,ay,da⟩:=b1 (f:=jc) au;rw [drop_cons ay,qz] at an;unfold FY at an;have wH:=ye (j+3) ag;have mg:(fB (gY p) (2+(gY p).length)).getD (j+3) []=xV p (j+3):=rfl;rw [mg] at wH;have iy:IntKind.wrap .i64 ((j:Int)+3)=((j+3:Nat):Int):=by rw [ek ag ag];omega
 rw [← iy] at wH;have ns:=VI p uw j au;have ns:aR Tryz.prog 256 [cA p,.int .i64 (IntKind.wrap .i64 ((j:Int)+3))] (bf (oN p j)):=by rw [iy];exact ns
 unfold cA cL bf at ns;unfold jc mN bf at da;unfold Lx at wH;cases Ds:(xV p (j+3)).isEmpty with
 | true=>
  rw [Ds,if_pos C] at wH;rw [Ds] at an
  repeat (first|(refine vR I ?_;clear I;intro I)|refine aa.dY ai I rfl rfl rfl rfl rfl rfl rfl (fun cJ I=>?_)|(refine pw ?_))
  refine aa.b3 C C C C C (gT _) I .nil ?_ ?_;rotate_left
  ·rintro _ _ ⟨rfl,h⟩ I
   obtain ⟨az,rfl⟩:=gL h;rw [nil_append] at I ⊢;exact Fin.e9 I aL .nil ⟨rfl,(by rw [an];rfl)⟩
  rintro _ _ ⟨rfl,h⟩ I;obtain ⟨al,rfl⟩:=gK h;rw [nil_append] at I ⊢;exact absurd al dZ
 | false=>
 rw [Ds,if_neg a'] at wH;rw [Ds,Bool.not_false,Bool.true_and] at an;unfold bf at wH
 repeat (first|(refine vR I ?_;clear I;intro I)|refine aa.dY ai I rfl rfl rfl rfl rfl rfl rfl (fun cJ I=>?_)|(refine pw ?_))
 refine aa.b3 C C C C C (gT _) I .nil ?_ ?_;rotate_left
 ·rintro _ _ ⟨rfl,h⟩ I
  obtain ⟨az,rfl⟩:=gL h;rw [nil_append] at I ⊢;exact Fin.e9 I aL .nil ⟨rfl,(by exact absurd az dZ)⟩
 rintro _ _ ⟨rfl,h⟩ I;obtain ⟨al,rfl⟩:=gK h;rw [nil_append] at I ⊢;clear al;refine c1 ?_;refine aa.rn I C C C C (fun mb I=>?_);refine cI I ?_;intro I;have hs:(oN p j).length≤40:=by
  have:=G3 df (j+1) [(j:Int)+3] [];unfold oN oM;rw [List.length_mergeSort];simp only [length_nil] at this;omega
 have h8:=fun n=>xX (oN p j) n ag
 unfold bf at h8;generalize oN p j=v' at ns an hs h8 I ⊢;have Mn:=(aD.each c (mem_of_getElem? ay)).2.2;refine ae.b4 [1,7,12,13,61,62,63,84,85] C I (σ:=Nat×kd) (fun q=>[(86,.int .i64 (q.1:Int))]) (fun q=>[(.own mb,.map (pF q.2))]) (fun q=>q.1≤c.inits.length∧qQ q.2 ((c.inits.take q.1).map iP.slot)∧qy v' [] c.inits=qy v' ((c.inits.take q.1).map iP.slot) (c.inits.drop q.1)) (fun q=>c.inits.length-q.1) (0,[]) ⟨zero_le _,fun n=>rfl,rfl⟩ (cq C) aX ?_;rintro ⟨k,fg⟩ ⟨aE,pM,bg⟩ I;simp only at aE pM bg I ⊢;refine b7 ?_;refine ae.cond C (fun cz=>?_) (fun dr=>?_);rotate_left
 ·have dr:k=c.inits.length:=by simp at dr;omega
  subst dr;rw [ep (Nat.le_refl _),qy] at bg;rw [bg,Bool.true_and] at an;refine bC ?_;exact bn.mk (j+1) I ⟨au,an⟩ ca aX x2
 have cz:k<c.inits.length:=by simpa using cz
 obtain ⟨x,ab,bJ⟩:=b1 (f:=we) cz;rw [drop_cons ab,qy] at bg;unfold we at bJ;have Mp:=h8 x.slot;have kW:=pM.look x.slot;have n1:=LJ x.n;cases uD:v'.contains x.slot with
 | false=>
  rw [uD] at Mp;rw [uD,Bool.false_and] at bg;rw [bg,Bool.false_and] at an;refine ej ?_;refine aa.b3 C C C C C (gT _) I .nil ?_ ?_;rotate_left
  ·rintro _ _ ⟨rfl,h⟩ I
   obtain ⟨az,rfl⟩:=gL h;rw [nil_append] at I ⊢;exact Fin.e9 I aL .nil ⟨rfl,(by rw [an];rfl)⟩
  rintro _ _ ⟨rfl,h⟩ I;obtain ⟨al,rfl⟩:=gK h;rw [nil_append] at I ⊢;exact absurd al dZ
 | true=>
 rw [uD] at Mp;rw [uD,Bool.true_and] at bg;cases wI:((c.inits.take k).map iP.slot).contains x.slot with
 | true=>
  rw [wI] at kW;rw [wI,Bool.not_true,Bool.false_and] at bg;rw [bg,Bool.false_and] at an;refine ej ?_;refine aa.jr ai I C C C C C C C C C C aY C kW C ?_;refine eh ?_;refine aa.b3 C C C C C (gT _) I .nil ?_ ?_;rotate_left
  ·rintro _ _ ⟨rfl,h⟩ I
   obtain ⟨az,rfl⟩:=gL h;rw [nil_append] at I ⊢;exact Fin.e9 I aL .nil ⟨rfl,(by rw [an];rfl)⟩
  rintro _ _ ⟨rfl,h⟩ I;obtain ⟨al,rfl⟩:=gK h;rw [nil_append] at I ⊢;exact absurd al dZ
 | false=>
 rw [wI] at kW;rw [wI,Bool.not_false,Bool.true_and] at bg;simp only [false_eq_true,if_false] at kW;refine ej ?_;refine aa.jr ai I C C C C C C C C C C aY C kW C ?_;refine c1 ?_;refine aa.b3 C C C C C (gT _) I .nil ?_ ?_;rotate_left
 ·rintro _ _ ⟨rfl,h⟩ I
  obtain ⟨az,rfl⟩:=gL h;rw [nil_append] at I ⊢;exact Fin.e9 I aL .nil ⟨rfl,(by rw [az,Bool.false_and] at bg;rw [bg,Bool.false_and] at an;rw [an];rfl)⟩
 rintro _ _ ⟨rfl,h⟩ I;obtain ⟨al,rfl⟩:=gK h;rw [nil_append] at I ⊢;rw [al,Bool.true_and] at bg;refine hq ?_;refine aa.mE ai I C C (.inl C) C C C C C C aY C (uu _ _ _) (fun I=>?_);refine fG ?_;have hA:(c.inits.take (k+1)).map iP.slot=(c.inits.take k).map iP.slot++[x.slot]:=by rw [iA ab,map_append];rfl
 exact bn.mk (k+1,_) I ⟨cz,by show qQ _ ((c.inits.take (k+1)).map iP.slot);rw [hA];exact pM.put x.slot,by show _=qy v' ((c.inits.take (k+1)).map iP.slot) _;rw [hA];exact bg⟩ ca aX (by show c.inits.length-(k+1)<c.inits.length-k;omega)
def wJ (n:Int):af := .iface 277 (.int .i64 n)
def wK (op:Int):af:=
 if op=5 then .iface 279 (.agg [])
 else if op=1∨op=2∨op=3∨op=6∨op=18 then wJ 0
 else if op=4∨op=8∨op=17 then wJ 1
 else if op=7∨op=9∨op=11∨op=12∨op=13∨op=14∨op=15∨op=16 then wJ 2
 else if op=10 then wJ 3
 else .nB
theorem VK (op:Int):aR Tryz.prog 228 [.int .i64 op] (wK op):=by
 have aq:=bA;refine aR.bh ai Tryz.func228 C C fun s I=>?_
 by_cases aF:1≤op∧op≤18
 ·have h:op=1∨op=2∨op=3∨op=4∨op=5∨op=6∨op=7∨op=8∨op=9∨op=10∨op=11∨op=12∨op=13∨op=14∨op=15∨op=16∨op=17∨op=18:=by omega
  clear aF;rcases h with rfl|rfl|rfl|rfl|rfl|rfl|rfl|rfl|rfl|rfl|rfl|rfl|rfl|rfl|rfl|rfl|rfl|rfl
  all_goals
   refine bC ?_;exact bl I
 ·have aE:wK op = .nB:=by
   unfold wK;rw [if_neg ag,if_neg ag,if_neg ag,if_neg ag,if_neg ag]
  rw [aE]
  repeat (first|(refine CH ?_)|refine ae.cond C (fun h=>absurd h cG) (fun _=>?_))
  exact bl I
theorem Mq (n:Int) (p:bP) (x:iQ):aR Tryz.prog 335 [.int .i64 n,cA p,jd x] (.int .i64 n):=by
 have aq:=bA;refine aR.bh ai Tryz.func335 C C fun s I=>?_
 unfold cA cL jd kP;refine gv ?_;exact bl I
theorem Mr (p:bP) (x:iQ) (k:Nat) (g:Int) (ab:x.n=(k:Int)) (aE:p.d'[k]? = some g):aR Tryz.prog 336 [.agg [],cA p,jd x] (.int .i64 g):=by
 have aq:=bA;refine aR.bh ai Tryz.func336 C C fun s I=>?_
 have eC:(p.d'.map ba)[k]? = some (.int .i64 g):=by rw [getElem?_map,aE];rfl
 unfold cA cL jd kP bf;rw [ab];refine bC ?_;exact bl I
def cM (b:Nat) (cs:List af):a8:=[(.own b,.box 3 cs)]
def VL (b:Nat) (ea:List af) (r:Option (List Int)) (o:ey) (K:a8):Prop:=
 match r with
 | some out=>o = .ret (.bool true)∧K=cM b (out.map ba++ea)
 | none=>o = .ret (.bool false)∧∃ cs,K=cM b cs
theorem VM {out:List Int} {ea:List af} {n:Nat} (h:n<out.length) (v:Int):eQ (n*1) [.int .i64 v] (out.map ba++ea)=(out.set n v).map ba++ea:=by
 rw [mul_one,pD,List.set_append_left _ _ (by rw [length_map];exact h),map_set];rfl
theorem G7 {out:List Int} {ea:List af} {n:Nat} (h:n<out.length):(out.map ba++ea)[n*1]? = some (.int .i64 (out.getD n 0)):=by
 rw [mul_one,getElem?_append_left (by rw [length_map];exact h),getElem?_map,getD_eq_getElem?_getD,getElem?_eq_getElem h];rfl
theorem G8 {p:bP} {n:Int} {out:List Int} (h:oP p n out=true):0≤n∧n<(p.nodes.length:Int)∧out.getD n.toNat 0<0:=by
 unfold oP at h;simp only [Bool.and_eq_true,decide_eq_true_eq] at h;omega
theorem G9 {p:bP} {next:Bool} {n size:Int} {out:List Int} (h:oP p n out=false):∀ f,visitM p next f n size out=none
 | 0=>rfl
 | f+1=>by rw [visitM,h];rfl
theorem Ms (p:bP) (aD:fj p) (nH:p.nodes.length≤120) (next:Bool) (b:Nat) (ea:List af) (cap:Nat):∀ (f:Nat),f≤12→∀ (n size:Int),0≤size→size+f≤15→∀ (out:List Int),out.length=p.nodes.length →
  bE Tryz.prog 138 [cA p,.int .i64 n,.int .i64 size,.int .i64 ((13-f:Nat):Int),.bool next,eo b p.nodes.length cap] (cM b (out.map ba++ea)) (VL b ea (visitM p next f n size out)):=by
 have aq:=bA;intro f
 induction f with
 | zero=>
  intro _ n size kN kK out gn;refine bE.bh ai Tryz.func138 C C fun s I=>?_
  rw [visitM];unfold cA cL cM;unfold cM at I;refine dv ?_;by_cases bt:n<0
  ·refine aa.de 18 C (by simpa using bt) ?_
   refine eh ?_;exact Fin.bu (K:=cM b _) I C aL (by simp only [cM];exact aX) ⟨rfl,_,rfl⟩
  refine aa.cY 18 C (by simpa using bt) ?_;refine dy ?_;by_cases U:n<(p.nodes.length:Int);rotate_left
  ·refine aa.de 25 C cG ?_
   refine eh ?_;exact Fin.bu (K:=cM b _) I C aL (by simp only [cM];exact aX) ⟨rfl,_,rfl⟩
  refine aa.cY 25 C cG ?_;refine dy ?_;refine aa.fi ai n.toNat C C C C C C C C C ag ag ?_;refine aa.jW ai I C C C C C C aY C (G7 ag) ?_;refine dy ?_;by_cases ad:out.getD n.toNat 0≥0
  ·refine aa.de 32 C p2 ?_
   refine eh ?_;exact Fin.bu (K:=cM b _) I C aL (by simp only [cM];exact aX) ⟨rfl,_,rfl⟩
  refine aa.cY 32 C p2 ?_;refine eh ?_;exact Fin.bu (K:=cM b _) I C aL (by simp only [cM];exact aX) ⟨rfl,_,rfl⟩
 | succ f a1=>
 intro a6 n size kN kK out gn;refine bE.bh ai Tryz.func138 C C fun s I=>?_
 unfold cA cL cM;unfold cM at I;refine dv ?_;by_cases bt:n<0
 ·refine aa.de 18 C (by simpa using bt) ?_
  rw [G9 (by rw [eq_false_iff];intro h;have:=G8 h;omega)];refine eh ?_;exact Fin.bu (K:=cM b _) I C aL (by simp only [cM];exact aX) ⟨rfl,_,rfl⟩
 refine aa.cY 18 C (by simpa using bt) ?_;refine dy ?_;by_cases U:n<(p.nodes.length:Int);rotate_left
 ·refine aa.de 25 C cG ?_
  rw [G9 (by rw [eq_false_iff];intro h;have:=G8 h;omega)];refine eh ?_;exact Fin.bu (K:=cM b _) I C aL (by simp only [cM];exact aX) ⟨rfl,_,rfl⟩
 refine aa.cY 25 C cG ?_;refine dy ?_;refine aa.fi ai n.toNat C C C C C C C C C ag ag ?_;refine aa.jW ai I C C C C C C aY C (G7 ag) ?_;refine dy ?_;by_cases ad:out.getD n.toNat 0≥0
 ·refine aa.de 32 C p2 ?_
  rw [G9 (by rw [eq_false_iff];intro h;have:=G8 h;omega)];refine eh ?_;exact Fin.bu (K:=cM b _) I C aL (by simp only [cM];exact aX) ⟨rfl,_,rfl⟩
 refine aa.cY 32 C p2 ?_;have dA:oP p n out=true:=by
  unfold oP;simp only [Bool.and_eq_true,decide_eq_true_eq];omega
 rw [visitM,if_pos dA];obtain ⟨q,rfl⟩:∃ q:Nat,n=q:=⟨n.toNat,by omega⟩;rw [toNat_natCast];obtain ⟨x,ab,bJ⟩:=b1 (f:=jd) (l:=p.nodes) (j:=q) ag;have G':p.nodes.getD q default=x:=by rw [getD_eq_getElem?_getD,ab];rfl
 rw [G',UX];have rR:=aD.kids x (mem_of_getElem? ab);refine fH ?_;refine ae.cond C (fun h=>by simp at h;omega) (fun _=>?_);refine dF ?_;refine aa.fi ai q C C C C C C C C C C ag ?_;refine aa.jX ai I ((out.set q size).map ba++ea) C C C C C C C C C aY (by rw [length_append,length_map];show q*1+1≤_;omega) (VM ag size) (fun I=>?_);have nm:(out.set q size).length=p.nodes.length:=by rw [length_set];exact gn
 generalize out.set q size=yf at I nm ⊢;have al:=U1 p x;have bd:=UZ p aD x size;unfold cA cL jd kP bf at al bd;unfold jd kP bf at bJ;refine ej ?_;by_cases g1:(x.kids.length:Int)=s' p x;rotate_left
 ·refine aN.split 52 C (fun _=>?_) (fun h=>absurd h (by simpa using g1))
  rw [decide_eq_false g1,Bool.false_and,if_neg a'];refine hr ?_;exact Fin.bu (K:=cM b _) I C aL (by simp only [cM];exact aX) ⟨rfl,_,rfl⟩
 refine aN.split 52 C (fun h=>absurd g1 fD) (fun _=>?_);rw [decide_eq_true g1,Bool.true_and];cases g2:mJ p x size with
 | false=>
  rw [g2] at bd;rw [Bool.false_and,if_neg a'];refine bW ?_;exact Fin.bu (K:=cM b _) I C aL (by simp only [cM];exact aX) ⟨rfl,_,rfl⟩
 | true=>
 rw [g2] at bd;rw [Bool.true_and];refine c1 ?_;cases next with
 | true=>
  rw [Bool.or_true];by_cases wL:x.op=18
  ·refine aN.split 63 C (fun _=>?_) (fun h=>absurd wL fD)
   rw [if_pos C];refine bW ?_;refine ae.b4 [1,2,3,4,5,6,13] C I (σ:=Nat×List Int) (fun q=>[(14,.int .i64 (q.1:Int))]) (fun q=>cM b (q.2.map ba++ea)) (fun q=>q.1≤x.kids.length∧q.2.length=p.nodes.length∧lj (visitM p true f) (decide (x.op=9)) size 0 x.kids yf=lj (visitM p true f) (decide (x.op=9)) size q.1 (x.kids.drop q.1) q.2) (fun q=>x.kids.length-q.1) (0,yf) ⟨zero_le _,nm,rfl⟩ (cq C) (by simp only [cM];exact aX) ?_;rintro ⟨j,bT⟩ ⟨aK,rl,an⟩ I
   try simp only at aK rl an I ⊢
   unfold cM at I ⊢;refine b7 ?_;refine ae.cond C (fun au=>?_) (fun aV=>?_);rotate_left
   ·have aV:j=x.kids.length:=by simp at aV;omega
    rw [ep ag,lj] at an;rw [an];refine dN ?_;exact Fin.bu (K:=cM b _) I C aL (by simp only [cM];exact aX) ⟨rfl,rfl⟩
   have au:j<x.kids.length:=by simpa using au
   obtain ⟨k,aE,eC⟩:=b1 (f:=ba) au;rw [drop_cons aE,lj] at an;unfold ba at eC;have cZ:=fun s U ad=>a1 ag k s U ad bT rl
   have ax:((13-f:Nat):Int)=IntKind.wrap .i64 (((13-(f+1):Nat):Int)+1):=by rw [ek ag ag];omega
   rw [ax] at cZ;unfold cA cL cM at cZ;refine bC ?_;by_cases ke:x.op=9
   ·refine aa.de 79 C (by simpa using ke) ?_
    refine fH ?_;refine ae.cond C (fun U=>?_) (fun U=>?_)
    ·have U:j=1:=by simp at U;omega
     rw [show (decide (x.op=9)&&j==1)=true by simp [ke,U],if_pos C] at an;have cZ:=cZ (size+1) ag ag;have AR:size+1=IntKind.wrap .i64 (size+1):=by rw [ek ag ag]
     rw [AR] at cZ an;refine oF ?_;cases av:visitM p true f k (IntKind.wrap .i64 (size+1)) bT with
     | none=>
      rw [av] at cZ;rw [av,bind_none] at an;rw [an];skip;refine aN.ky rfl rfl rfl rfl rfl rfl cZ I (aH.all _) ?_ (fun _ _ ⟨h,_⟩ _=>by cases h);rintro _ _ ⟨⟨⟩,cs,rfl⟩ I;rw [append_nil] at I ⊢;unfold cM at I ⊢;refine hr ?_;exact Fin.bu (K:=cM b _) I C aL (by simp only [cM];exact aX) ⟨rfl,_,rfl⟩
     | some ff=>
      have pt:=qJ ag av;rw [av] at cZ;rw [av,bind_some] at an;skip;refine aN.ky rfl rfl rfl rfl rfl rfl cZ I (aH.all _) ?_ (fun _ _ ⟨h,_⟩ _=>by cases h);rintro _ _ ⟨⟨⟩,rfl⟩ I;rw [append_nil] at I ⊢;unfold cM at I ⊢;refine jE ?_;exact bn.mk (j+1,ff) I ⟨au,by show ff.length=_;omega,an⟩ ca (by simp only [cM];exact aX) pS
    ·have U:j≠1:=by simp at U;omega
     rw [show (decide (x.op=9)&&j==1)=false by simp [U],if_neg a'] at an;have cZ:=cZ size ag ag;refine oF ?_;cases av:visitM p true f k size bT with
     | none=>
      rw [av] at cZ;rw [av,bind_none] at an;rw [an];skip;refine aN.ky rfl rfl rfl rfl rfl rfl cZ I (aH.all _) ?_ (fun _ _ ⟨h,_⟩ _=>by cases h);rintro _ _ ⟨⟨⟩,cs,rfl⟩ I;rw [append_nil] at I ⊢;unfold cM at I ⊢;refine hr ?_;exact Fin.bu (K:=cM b _) I C aL (by simp only [cM];exact aX) ⟨rfl,_,rfl⟩
     | some ff=>
      have pt:=qJ ag av;rw [av] at cZ;rw [av,bind_some] at an;skip;refine aN.ky rfl rfl rfl rfl rfl rfl cZ I (aH.all _) ?_ (fun _ _ ⟨h,_⟩ _=>by cases h);rintro _ _ ⟨⟨⟩,rfl⟩ I;rw [append_nil] at I ⊢;unfold cM at I ⊢;refine jE ?_;exact bn.mk (j+1,ff) I ⟨au,by show ff.length=_;omega,an⟩ ca (by simp only [cM];exact aX) pS
   ·refine aa.cY 79 C (by simpa using ke) ?_
    rw [show (decide (x.op=9)&&j==1)=false by simp [ke],if_neg a'] at an;have cZ:=cZ size ag ag;refine oF ?_;cases av:visitM p true f k size bT with
    | none=>
     rw [av] at cZ;rw [av,bind_none] at an;rw [an];skip;refine aN.ky rfl rfl rfl rfl rfl rfl cZ I (aH.all _) ?_ (fun _ _ ⟨h,_⟩ _=>by cases h);rintro _ _ ⟨⟨⟩,cs,rfl⟩ I;rw [append_nil] at I ⊢;unfold cM at I ⊢;refine hr ?_;exact Fin.bu (K:=cM b _) I C aL (by simp only [cM];exact aX) ⟨rfl,_,rfl⟩
    | some ff=>
     have pt:=qJ ag av;rw [av] at cZ;rw [av,bind_some] at an;skip;refine aN.ky rfl rfl rfl rfl rfl rfl cZ I (aH.all _) ?_ (fun _ _ ⟨h,_⟩ _=>by cases h);rintro _ _ ⟨⟨⟩,rfl⟩ I;rw [append_nil] at I ⊢;unfold cM at I ⊢;refine jE ?_;exact bn.mk (j+1,ff) I ⟨au,by show ff.length=_;omega,an⟩ ca (by simp only [cM];exact aX) pS
  ·refine aN.split 63 C (fun h=>absurd fD wL) (fun _=>?_)
   rw [if_pos C];refine bW ?_;refine ae.b4 [1,2,3,4,5,6,13] C I (σ:=Nat×List Int) (fun q=>[(14,.int .i64 (q.1:Int))]) (fun q=>cM b (q.2.map ba++ea)) (fun q=>q.1≤x.kids.length∧q.2.length=p.nodes.length∧lj (visitM p true f) (decide (x.op=9)) size 0 x.kids yf=lj (visitM p true f) (decide (x.op=9)) size q.1 (x.kids.drop q.1) q.2) (fun q=>x.kids.length-q.1) (0,yf) ⟨zero_le _,nm,rfl⟩ (cq C) (by simp only [cM];exact aX) ?_;rintro ⟨j,bT⟩ ⟨aK,rl,an⟩ I
   try simp only at aK rl an I ⊢
   unfold cM at I ⊢;refine b7 ?_;refine ae.cond C (fun au=>?_) (fun aV=>?_);rotate_left
   ·have aV:j=x.kids.length:=by simp at aV;omega
    rw [ep ag,lj] at an;rw [an];refine dN ?_;exact Fin.bu (K:=cM b _) I C aL (by simp only [cM];exact aX) ⟨rfl,rfl⟩
   have au:j<x.kids.length:=by simpa using au
   obtain ⟨k,aE,eC⟩:=b1 (f:=ba) au;rw [drop_cons aE,lj] at an;unfold ba at eC;have cZ:=fun s U ad=>a1 ag k s U ad bT rl
   have ax:((13-f:Nat):Int)=IntKind.wrap .i64 (((13-(f+1):Nat):Int)+1):=by rw [ek ag ag];omega
   rw [ax] at cZ;unfold cA cL cM at cZ;refine bC ?_;by_cases ke:x.op=9
   ·refine aa.de 79 C (by simpa using ke) ?_
    refine fH ?_;refine ae.cond C (fun U=>?_) (fun U=>?_)
    ·have U:j=1:=by simp at U;omega
     rw [show (decide (x.op=9)&&j==1)=true by simp [ke,U],if_pos C] at an;have cZ:=cZ (size+1) ag ag;have AR:size+1=IntKind.wrap .i64 (size+1):=by rw [ek ag ag]
     rw [AR] at cZ an;refine oF ?_;cases av:visitM p true f k (IntKind.wrap .i64 (size+1)) bT with
     | none=>
      rw [av] at cZ;rw [av,bind_none] at an;rw [an];skip;refine aN.ky rfl rfl rfl rfl rfl rfl cZ I (aH.all _) ?_ (fun _ _ ⟨h,_⟩ _=>by cases h);rintro _ _ ⟨⟨⟩,cs,rfl⟩ I;rw [append_nil] at I ⊢;unfold cM at I ⊢;refine hr ?_;exact Fin.bu (K:=cM b _) I C aL (by simp only [cM];exact aX) ⟨rfl,_,rfl⟩
     | some ff=>
      have pt:=qJ ag av;rw [av] at cZ;rw [av,bind_some] at an;skip;refine aN.ky rfl rfl rfl rfl rfl rfl cZ I (aH.all _) ?_ (fun _ _ ⟨h,_⟩ _=>by cases h);rintro _ _ ⟨⟨⟩,rfl⟩ I;rw [append_nil] at I ⊢;unfold cM at I ⊢;refine jE ?_;exact bn.mk (j+1,ff) I ⟨au,by show ff.length=_;omega,an⟩ ca (by simp only [cM];exact aX) pS
    ·have U:j≠1:=by simp at U;omega
     rw [show (decide (x.op=9)&&j==1)=false by simp [U],if_neg a'] at an;have cZ:=cZ size ag ag;refine oF ?_;cases av:visitM p true f k size bT with
     | none=>
      rw [av] at cZ;rw [av,bind_none] at an;rw [an];skip;refine aN.ky rfl rfl rfl rfl rfl rfl cZ I (aH.all _) ?_ (fun _ _ ⟨h,_⟩ _=>by cases h);rintro _ _ ⟨⟨⟩,cs,rfl⟩ I;rw [append_nil] at I ⊢;unfold cM at I ⊢;refine hr ?_;exact Fin.bu (K:=cM b _) I C aL (by simp only [cM];exact aX) ⟨rfl,_,rfl⟩
     | some ff=>
      have pt:=qJ ag av;rw [av] at cZ;rw [av,bind_some] at an;skip;refine aN.ky rfl rfl rfl rfl rfl rfl cZ I (aH.all _) ?_ (fun _ _ ⟨h,_⟩ _=>by cases h);rintro _ _ ⟨⟨⟩,rfl⟩ I;rw [append_nil] at I ⊢;unfold cM at I ⊢;refine jE ?_;exact bn.mk (j+1,ff) I ⟨au,by show ff.length=_;omega,an⟩ ca (by simp only [cM];exact aX) pS
   ·refine aa.cY 79 C (by simpa using ke) ?_
    rw [show (decide (x.op=9)&&j==1)=false by simp [ke],if_neg a'] at an;have cZ:=cZ size ag ag;refine oF ?_;cases av:visitM p true f k size bT with
    | none=>
     rw [av] at cZ;rw [av,bind_none] at an;rw [an];skip;refine aN.ky rfl rfl rfl rfl rfl rfl cZ I (aH.all _) ?_ (fun _ _ ⟨h,_⟩ _=>by cases h);rintro _ _ ⟨⟨⟩,cs,rfl⟩ I;rw [append_nil] at I ⊢;unfold cM at I ⊢;refine hr ?_;exact Fin.bu (K:=cM b _) I C aL (by simp only [cM];exact aX) ⟨rfl,_,rfl⟩
    | some ff=>
     have pt:=qJ ag av;rw [av] at cZ;rw [av,bind_some] at an;skip;refine aN.ky rfl rfl rfl rfl rfl rfl cZ I (aH.all _) ?_ (fun _ _ ⟨h,_⟩ _=>by cases h);rintro _ _ ⟨⟨⟩,rfl⟩ I;rw [append_nil] at I ⊢;unfold cM at I ⊢;refine jE ?_;exact bn.mk (j+1,ff) I ⟨au,by show ff.length=_;omega,an⟩ ca (by simp only [cM];exact aX) pS
 | false=>
  by_cases wL:x.op=18
  ·rw [show (decide (x.op≠18)||false)=false by simp [wL],if_neg a']
   refine aN.split 63 C (fun _=>?_) (fun h=>absurd wL fD);refine hr ?_;exact Fin.bu (K:=cM b _) I C aL (by simp only [cM];exact aX) ⟨rfl,_,rfl⟩
  ·rw [show (decide (x.op≠18)||false)=true by simp [wL]]
   refine aN.split 63 C (fun h=>absurd fD wL) (fun _=>?_);rw [if_pos C];refine bW ?_;refine ae.b4 [1,2,3,4,5,6,13] C I (σ:=Nat×List Int) (fun q=>[(14,.int .i64 (q.1:Int))]) (fun q=>cM b (q.2.map ba++ea)) (fun q=>q.1≤x.kids.length∧q.2.length=p.nodes.length∧lj (visitM p false f) (decide (x.op=9)) size 0 x.kids yf=lj (visitM p false f) (decide (x.op=9)) size q.1 (x.kids.drop q.1) q.2) (fun q=>x.kids.length-q.1) (0,yf) ⟨zero_le _,nm,rfl⟩ (cq C) (by simp only [cM];exact aX) ?_;rintro ⟨j,bT⟩ ⟨aK,rl,an⟩ I
   try simp only at aK rl an I ⊢
   unfold cM at I ⊢;refine b7 ?_;refine ae.cond C (fun au=>?_) (fun aV=>?_);rotate_left
   ·have aV:j=x.kids.length:=by simp at aV;omega
    rw [ep ag,lj] at an;rw [an];refine dN ?_;exact Fin.bu (K:=cM b _) I C aL (by simp only [cM];exact aX) ⟨rfl,rfl⟩
   have au:j<x.kids.length:=by simpa using au
   obtain ⟨k,aE,eC⟩:=b1 (f:=ba) au;rw [drop_cons aE,lj] at an;unfold ba at eC;have cZ:=fun s U ad=>a1 ag k s U ad bT rl
   have ax:((13-f:Nat):Int)=IntKind.wrap .i64 (((13-(f+1):Nat):Int)+1):=by rw [ek ag ag];omega
   rw [ax] at cZ;unfold cA cL cM at cZ;refine bC ?_;by_cases ke:x.op=9
   ·refine aa.de 79 C (by simpa using ke) ?_
    refine fH ?_;refine ae.cond C (fun U=>?_) (fun U=>?_)
    ·have U:j=1:=by simp at U;omega
     rw [show (decide (x.op=9)&&j==1)=true by simp [ke,U],if_pos C] at an;have cZ:=cZ (size+1) ag ag;have AR:size+1=IntKind.wrap .i64 (size+1):=by rw [ek ag ag]
     rw [AR] at cZ an;refine oF ?_;cases av:visitM p false f k (IntKind.wrap .i64 (size+1)) bT with
     | none=>
      rw [av] at cZ;rw [av,bind_none] at an;rw [an];skip;refine aN.ky rfl rfl rfl rfl rfl rfl cZ I (aH.all _) ?_ (fun _ _ ⟨h,_⟩ _=>by cases h);rintro _ _ ⟨⟨⟩,cs,rfl⟩ I;rw [append_nil] at I ⊢;unfold cM at I ⊢;refine hr ?_;exact Fin.bu (K:=cM b _) I C aL (by simp only [cM];exact aX) ⟨rfl,_,rfl⟩
     | some ff=>
      have pt:=qJ ag av;rw [av] at cZ;rw [av,bind_some] at an;skip;refine aN.ky rfl rfl rfl rfl rfl rfl cZ I (aH.all _) ?_ (fun _ _ ⟨h,_⟩ _=>by cases h);rintro _ _ ⟨⟨⟩,rfl⟩ I;rw [append_nil] at I ⊢;unfold cM at I ⊢;refine jE ?_;exact bn.mk (j+1,ff) I ⟨au,by show ff.length=_;omega,an⟩ ca (by simp only [cM];exact aX) pS
    ·have U:j≠1:=by simp at U;omega
     rw [show (decide (x.op=9)&&j==1)=false by simp [U],if_neg a'] at an;have cZ:=cZ size ag ag;refine oF ?_;cases av:visitM p false f k size bT with
     | none=>
      rw [av] at cZ;rw [av,bind_none] at an;rw [an];skip;refine aN.ky rfl rfl rfl rfl rfl rfl cZ I (aH.all _) ?_ (fun _ _ ⟨h,_⟩ _=>by cases h);rintro _ _ ⟨⟨⟩,cs,rfl⟩ I;rw [append_nil] at I ⊢;unfold cM at I ⊢;refine hr ?_;exact Fin.bu (K:=cM b _) I C aL (by simp only [cM];exact aX) ⟨rfl,_,rfl⟩
     | some ff=>
      have pt:=qJ ag av;rw [av] at cZ;rw [av,bind_some] at an;skip;refine aN.ky rfl rfl rfl rfl rfl rfl cZ I (aH.all _) ?_ (fun _ _ ⟨h,_⟩ _=>by cases h);rintro _ _ ⟨⟨⟩,rfl⟩ I;rw [append_nil] at I ⊢;unfold cM at I ⊢;refine jE ?_;exact bn.mk (j+1,ff) I ⟨au,by show ff.length=_;omega,an⟩ ca (by simp only [cM];exact aX) pS
   ·refine aa.cY 79 C (by simpa using ke) ?_
    rw [show (decide (x.op=9)&&j==1)=false by simp [ke],if_neg a'] at an;have cZ:=cZ size ag ag;refine oF ?_;cases av:visitM p false f k size bT with
    | none=>
     rw [av] at cZ;rw [av,bind_none] at an;rw [an];skip;refine aN.ky rfl rfl rfl rfl rfl rfl cZ I (aH.all _) ?_ (fun _ _ ⟨h,_⟩ _=>by cases h);rintro _ _ ⟨⟨⟩,cs,rfl⟩ I;rw [append_nil] at I ⊢;unfold cM at I ⊢;refine hr ?_;exact Fin.bu (K:=cM b _) I C aL (by simp only [cM];exact aX) ⟨rfl,_,rfl⟩
    | some ff=>
     have pt:=qJ ag av;rw [av] at cZ;rw [av,bind_some] at an;skip;refine aN.ky rfl rfl rfl rfl rfl rfl cZ I (aH.all _) ?_ (fun _ _ ⟨h,_⟩ _=>by cases h);rintro _ _ ⟨⟨⟩,rfl⟩ I;rw [append_nil] at I ⊢;unfold cM at I ⊢;refine jE ?_;exact bn.mk (j+1,ff) I ⟨au,by show ff.length=_;omega,an⟩ ca (by simp only [cM];exact aX) pS
theorem VN {g:List (List Int)} {i:Nat} {l:List Int} (aB:g[i]? = some l) (h:3<l.length):mf g=false:=by
 rw [eq_false_iff];intro aw;have:=(z8 aw).par i l aB;omega
theorem VO (p:bP) (aD:fj p):aR Tryz.prog 136 [cA p] (.bool (oO p)):=by
 have aq:=bA;have e0:oO p=(decide (p.ck.length≤10)&&((lh 0 p.ck==some p.bo)&&(mf (gY p)&&qz p 0 p.ck))):=rfl;have cv:=aD.cls;have jF:(gY p).length=p.ck.length:=length_map _;have dz:=LU p aD;have Mt:=S7 (gY p) ag;have gJ:=fun h=>GM p aD h
 refine aR.bh ai Tryz.func136 C C fun s I=>?_
 unfold cA cL fm fr c9 bf at *;refine b7 ?_;refine ae.cond C (fun h=>?_) (fun h=>?_)
 ·rw [show decide (p.ck.length≤10)=false by simp at h ⊢;omega,Bool.false_and] at e0
  refine gv ?_;exact Fin.cx I C (aS.of_eq (congrArg af.bool e0.symm))
 have Mu:p.ck.length≤10:=by simp at h;omega
 rw [decide_eq_true Mu,Bool.true_and] at e0;refine jb ?_;refine ae.b4 [1] C I (σ:=Nat×Int) (fun q=>[(4,.int .i64 (q.1:Int)),(3,.int .i64 q.2)]) (fun _=>[]) (fun q=>q.1≤p.ck.length∧lh 0 p.ck=lh q.2 (p.ck.drop q.1)∧0≤q.2∧q.2≤4*q.1) (fun q=>p.ck.length-q.1) (0,0) ⟨zero_le _,rfl,Int.le_refl _,by omega⟩ (cq C) aX ?_;rintro ⟨j,n⟩ ⟨aK,an,xY,G4⟩ I
 try simp only at aK an xY G4 I ⊢
 refine b7 ?_;refine ae.cond C (fun au=>?_) (fun aV=>?_)
 ·have au:j<p.ck.length:=by simpa using au
  obtain ⟨c,aC,mM⟩:=b1 (f:=jc) au;obtain ⟨cg,bY,eR⟩:=aD.each c (mem_of_getElem? aC);rw [drop_cons aC,lh] at an;unfold jc mN bf at mM;refine dF ?_;by_cases bd:c.bo.length≤4;rotate_left
  ·rw [if_neg bd] at an
   rw [an,show (none==some p.bo)=false from rfl,Bool.false_and] at e0;refine aa.de 36 C cG ?_;refine e1 ?_;exact Fin.cx I C (aS.of_eq (congrArg af.bool e0.symm))
  rw [if_pos bd] at an;refine aa.cY 36 C cG ?_;refine dF ?_;refine ae.cond C (fun al=>?_) (fun al=>?_)
  ·have al:3<c.parents.length:=by simp at al;omega
   rw [VN (g:=gY p) (i:=j) (l:=c.parents) (by unfold gY;rw [getElem?_map,aC];rfl) al,Bool.false_and,Bool.and_false] at e0;refine ja ?_;exact Fin.cx I C (aS.of_eq (congrArg af.bool e0.symm))
  refine jb ?_;refine ae.b4 [1,4,5] C I (σ:=Nat) (fun k=>[(6,.int .i64 (k:Int)),(3,.int .i64 (n+k))]) (fun _=>[]) (fun k=>k≤c.bo.length∧ni n c.bo=ni (n+k) (c.bo.drop k)) (fun k=>c.bo.length-k) 0 ⟨zero_le _,by rw [drop_zero];congr 1;omega⟩ (by repeat (first|exact trivial|refine ⟨⟨_,rfl,aL⟩,?_⟩|refine ⟨⟨_,rfl,aS.of_eq (by (congr 1;omega))⟩,?_⟩)) aX ?_;rintro k ⟨aE,bg⟩ I
  try simp only at aE bg I ⊢
  refine b7 ?_;refine ae.cond C (fun cz=>?_) (fun dr=>?_)
  ·have cz:k<c.bo.length:=by simpa using cz
   obtain ⟨y,ay,da⟩:=b1 (f:=ba) cz;rw [drop_cons ay,ni] at bg;unfold ba at da;refine dF ?_;refine ae.cond C (fun cP=>?_) (fun he=>?_)
   ·have cP:y≠n+k:=by simpa using cP
    rw [if_neg cP] at bg;rw [an,bg,bind_none,show (none==some p.bo)=false from rfl,Bool.false_and] at e0;refine ja ?_;exact Fin.cx I C (aS.of_eq (congrArg af.bool e0.symm))
   have he:y=n+k:=by simpa using he
   rw [if_pos he] at bg;refine gd ?_;exact bn.mk (k+1) I ⟨cz,by rw [bg];congr 1;push_cast;omega⟩ (by repeat (first|exact trivial|refine ⟨⟨_,rfl,aL⟩,?_⟩|refine ⟨⟨_,rfl,aS.of_eq (by (first|rw [jD ag]|(rw [ek ag ag];congr 1;push_cast;omega)))⟩,?_⟩)) aX Db
  ·have dr:k=c.bo.length:=by simp at dr;omega
   rw [ep ag,ni] at bg;rw [bg,bind_some] at an;refine bC ?_;exact bn.mk (j+1,n+k) I ⟨au,an,by show 0≤n+(k:Int);omega,by show n+(k:Int)≤4*((j+1:Nat):Int);omega⟩ ca aX x2
 have aV:j=p.ck.length:=by simp at aV;omega
 rw [ep ag,lh] at an;rw [an] at e0;have gn:=(F3 (i:=0) an).1;have gJ:=gJ ag;refine c1 ?_;by_cases ar:n=p.bo;rotate_left
 ·rw [show (some n==some p.bo)=false by simpa using ar,Bool.false_and] at e0
  refine aa.de 66 C (by simpa using ar) ?_;refine eh ?_;exact Fin.cx I C (aS.of_eq (congrArg af.bool e0.symm))
 refine aa.cY 66 C (by simpa using ar) ?_;rw [show (some n==some p.bo)=true by simpa using ar,Bool.true_and] at e0;cases j7:mf (gY p) with
 | false=>
  rw [j7,Bool.false_and] at e0;rw [j7] at Mt;refine bW ?_;exact Fin.cx I C (aS.of_eq (congrArg af.bool e0.symm))
 | true=>
 rw [j7,Bool.true_and] at e0;rw [j7] at Mt;have l7:=z8 j7;have nu:=Kx Mu an j7;subst ar;have Mv:=fun c aC=>Tf (gY p) l7 c aC
 have Mw:=fun c bB o U ad=>UW (b9 p) nu c bB o U ad
 have VP:=fun i h s=>S1 an nu (i:=i) h s
 have hIn:=fun n=>LS n
 have qH:(b9 p).ps.length=p.ck.length:=jF;have po:((b9 p).owner.length:Int)=p.bo:=by
  have:(b9 p).owner=fC 0 p.ck:=rfl;rw [this];omega
 unfold fm fr c9 bf at Mw;unfold c9 bf at Mv;refine ej ?_;refine ae.b4 [1,3,7,8] C I (σ:=Nat) (fun j=>[(9,.int .i64 (j:Int))]) (fun _=>[]) (fun j=>j≤p.ck.length∧qz p 0 p.ck=qz p j (p.ck.drop j)) (fun j=>p.ck.length-j) 0 ⟨zero_le _,rfl⟩ (cq C) aX ?_;rintro i ⟨aQ,cy⟩ I
 try simp only at aQ cy I ⊢
 refine b7 ?_;refine ae.cond C (fun au=>?_) (fun aV=>?_);rotate_left
 ·have aV:i=p.ck.length:=by simp at aV;omega
  rw [ep ag,qz] at cy;rw [cy] at e0;refine dN ?_;exact Fin.cx I C (aS.of_eq (congrArg af.bool e0.symm))
 have au:i<p.ck.length:=by simpa using au
 obtain ⟨c,aC,mM⟩:=b1 (f:=jc) au;obtain ⟨cg,bY,eR⟩:=aD.each c (mem_of_getElem? aC);rw [drop_cons aC,qz,FY] at cy;have ye:=Mv (3+i) ag;have iy:(((3+i:Nat):Int))=IntKind.wrap .i64 ((i:Int)+3):=by rw [ek ag ag];omega
 have hle:xV p (i+3)=(fB (gY p) (2+(gY p).length)).getD (3+i) []:=by unfold xV;rw [Nat.add_comm 3 i]
 rw [← hle,iy] at ye;unfold jc mN bf at mM;cases he:(xV p (i+3)).isEmpty with
 | true=>
  rw [he] at ye;rw [he,Bool.not_true,Bool.false_and,Bool.false_and] at cy;rw [cy] at e0;refine bW ?_;exact Fin.cx I C (aS.of_eq (congrArg af.bool e0.symm))
 | false=>
 rw [he] at ye;rw [he,Bool.not_false,Bool.true_and] at cy;refine bW ?_;refine ae.b4 [1,3,7,8,9,10,13] C I (σ:=Nat) (fun k=>[(14,.int .i64 (k:Int))]) (fun _=>[]) (fun k=>k≤c.inits.length∧qy (oN p i) [] c.inits=qy (oN p i) ((c.inits.take k).map iP.slot) (c.inits.drop k)) (fun k=>c.inits.length-k) 0 ⟨zero_le _,rfl⟩ (cq C) aX ?_;rintro k ⟨aE,bg⟩ I
 try simp only at aE bg I ⊢
 refine b7 ?_;refine ae.cond C (fun cz=>?_) (fun dr=>?_);rotate_left
 ·have dr:k=c.inits.length:=by simp at dr;omega
  rw [ep ag,qy] at bg;rw [bg,Bool.true_and] at cy;refine bC ?_;exact bn.mk (i+1) I ⟨au,cy⟩ ca aX (by show p.ck.length-(i+1)<p.ck.length-i;omega)
 have cz:k<c.inits.length:=by simpa using cz
 obtain ⟨x,ab,bJ⟩:=b1 (f:=we) cz;rw [drop_cons ab,qy,VP i au] at bg;unfold we at bJ;refine oE ?_;by_cases g1:x.slot<0
 ·refine aN.split 108 C (fun _=>?_) (fun h=>absurd h (by simpa using g1))
  rw [show decide (x.slot≥0)=false by simp;omega,Bool.false_and,Bool.false_and] at bg;rw [bg] at cy;rw [Bool.false_and] at cy;rw [cy] at e0;refine hr ?_;exact Fin.cx I C (aS.of_eq (congrArg af.bool e0.symm))
 refine aN.split 108 C (fun h=>absurd fD g1) (fun _=>?_);rw [show decide (x.slot≥0)=true by simp;omega,Bool.true_and] at bg;refine c1 ?_;by_cases g2:x.slot<p.bo;rotate_left
 ·refine aN.split 117 C (fun _=>?_) (fun h=>absurd h cG)
  rw [show decide (x.slot<p.bo)=false by simp;omega,Bool.false_and,Bool.false_and] at bg;rw [bg] at cy;rw [Bool.false_and] at cy;rw [cy] at e0;refine hr ?_;exact Fin.cx I C (aS.of_eq (congrArg af.bool e0.symm))
 refine aN.split 117 C (fun h=>absurd h cG) (fun _=>?_);rw [decide_eq_true g2,Bool.true_and] at bg;obtain ⟨bB,df⟩:∃ bB:Nat,x.slot=bB:=⟨x.slot.toNat,by omega⟩;obtain ⟨o,ah⟩:∃ o,(b9 p).owner[bB]? = some o:=⟨_,getElem?_eq_getElem ag⟩;have mu:=nu.own o (mem_of_getElem? ah);obtain ⟨Ha,rfl⟩:∃ q:Nat,o=q:=⟨o.toNat,by omega⟩;have te:=Mw (3+i) bB Ha ag ah;rw [show (b9 p).owner.getD x.slot.toNat 0=(Ha:Int) by rw [df,toNat_natCast,getD_eq_getElem?_getD,ah];rfl,toNat_natCast] at bg;rw [iy,← df] at te;cases g3:((eN (b9 p).ps).getD (3+i) 0).testBit Ha with
 | false=>
  rw [g3,Bool.false_and] at bg;rw [g3] at te;refine bW ?_;rw [bg] at cy;rw [Bool.false_and] at cy;rw [cy] at e0;skip;exact Fin.cx I C (aS.of_eq (congrArg af.bool e0.symm))
 | true=>
 rw [g3,Bool.true_and] at bg;rw [g3] at te;have fl:=hIn x.n;cases g4:kr x.n with
 | false=>
  rw [g4,Bool.false_and,Bool.and_false] at bg;rw [g4] at fl;refine bW ?_;rw [bg] at cy;rw [Bool.false_and] at cy;rw [cy] at e0;skip;exact Fin.cx I C (aS.of_eq (congrArg af.bool e0.symm))
 | true=>
 rw [g4,Bool.true_and] at bg;rw [g4] at fl;refine bW ?_;refine ae.b4 [1,3,7,8,9,10,13,14] C I (σ:=Nat) (fun j=>[(15,.int .i64 (j:Int))]) (fun _=>[]) (fun j=>j≤k∧((c.inits.take j).map iP.slot).contains x.slot=false) (fun j=>k-j) 0 ⟨zero_le _,by simp⟩ (cq C) aX ?_;rintro j ⟨aK,ch⟩ I
 try simp only at aK ch I ⊢
 refine b7 ?_;refine ae.cond C (fun jV=>?_) (fun kx=>?_);rotate_left
 ·have kx:j=k:=by simp at kx;omega
  subst kx;rw [ch,Bool.not_false,Bool.true_and] at bg;have hA:(c.inits.take (j+1)).map iP.slot=(c.inits.take j).map iP.slot++[x.slot]:=by rw [iA ab,map_append];rfl
  rw [← hA] at bg;refine bC ?_;exact bn.mk (j+1) I ⟨cz,bg⟩ ca aX (by show c.inits.length-(j+1)<c.inits.length-j;omega)
 have jV:j<k:=by simpa using jV
 obtain ⟨y,ay,da⟩:=b1 (f:=we) (l:=c.inits) (j:=j) ag;unfold we at da;refine oE ?_;refine ae.cond C (fun zj=>?_) (fun Hb=>?_)
 ·have zj:y.slot=x.slot:=by simpa using zj
  have:((c.inits.take k).map iP.slot).contains x.slot=true:=by
   rw [contains_iff_mem];refine mem_map.2 ⟨y,?_,zj⟩;exact mem_of_getElem? (show (c.inits.take k)[j]? = some y by rw [getElem?_take,if_pos jV,ay])
  rw [this,Bool.not_true,Bool.false_and] at bg;rw [bg] at cy;rw [Bool.false_and] at cy;rw [cy] at e0;refine ja ?_;exact Fin.cx I C (aS.of_eq (congrArg af.bool e0.symm))
 have Hb:y.slot≠x.slot:=by simpa using Hb
 refine gd ?_;exact bn.mk (j+1) I ⟨jV,by rw [iA ay,map_append,List.contains_append,ch,Bool.false_or];simpa using Hb.symm⟩ ca aX (by show k-(j+1)<k-j;omega)
def Mx (p:bP) (o:ey) (_K:a8):Prop:=∃ v,o = .ret (.cp [v,.bool (gy p)])
theorem VQ (p:bP) (aD:fj p):bE Tryz.prog 93 [cA p] [] (Mx p):=by
 have aq:=bA;have gM:gy p=(nk p).isSome:=rfl;have ch:nk p=if oO p&&qA p then (nj p p.methods (replicate p.nodes.length (-1))).bind fun out=>(visitM p false 12 p.main 0 out).bind fun out=>if out.contains (-1) then none else some out else none:=rfl
 have bN:qA p=(decide (p.d'.length≤8)&&(decide (p.methods.length≤16)&&(decide (p.nodes.length≥1)&&(decide (p.nodes.length≤120)&&p.d'.all fun n=>decide (n≥1)&&decide (n≤3))))):=rfl;have e0:=VO p aD;have gJ:=fun h=>GM p aD h
 refine bE.bh ai Tryz.func93 C C fun s I=>?_
 unfold Mx;unfold cA cL fm fr c9 bf at *;cases AS:oO p with
 | false=>
  rw [AS] at e0;rw [AS,Bool.false_and,if_neg a'] at ch;rw [ch] at gM;refine bW ?_;exact Fin.bu (K:=[]) I C aL .nil ⟨_,by rw [gM];rfl⟩
 | true=>
 rw [AS] at e0;rw [AS,Bool.true_and] at ch;refine bW ?_;by_cases g1:p.d'.length≤8;rotate_left
 ·rw [decide_eq_false g1,Bool.false_and] at bN
  rw [bN,if_neg a'] at ch;rw [ch] at gM;refine aa.de 20 C cG ?_;refine eh ?_;exact Fin.bu (K:=[]) I C aL .nil ⟨_,by rw [gM];rfl⟩
 refine aa.cY 20 C cG ?_;rw [decide_eq_true g1,Bool.true_and] at bN;refine dy ?_;by_cases g2:p.methods.length≤16;rotate_left
 ·rw [decide_eq_false g2,Bool.false_and] at bN
  rw [bN,if_neg a'] at ch;rw [ch] at gM;refine aa.de 26 C cG ?_;refine eh ?_;exact Fin.bu (K:=[]) I C aL .nil ⟨_,by rw [gM];rfl⟩
 refine aa.cY 26 C cG ?_;rw [decide_eq_true g2,Bool.true_and] at bN;refine dy ?_;by_cases g3:p.nodes.length≥1;rotate_left
 ·rw [decide_eq_false g3,Bool.false_and] at bN
  rw [bN,if_neg a'] at ch;rw [ch] at gM;refine aa.de 32 C cG ?_;refine eh ?_;exact Fin.bu (K:=[]) I C aL .nil ⟨_,by rw [gM];rfl⟩
 refine aa.cY 32 C cG ?_;rw [decide_eq_true g3,Bool.true_and] at bN;refine fH ?_;refine ae.cond C (fun h=>?_) (fun h=>?_)
 ·rw [show decide (p.nodes.length≤120)=false by simp at h ⊢;omega,Bool.false_and] at bN
  rw [bN,if_neg a'] at ch;rw [ch] at gM;refine gv ?_;exact Fin.bu (K:=[]) I C aL .nil ⟨_,by rw [gM];rfl⟩
 have g4:p.nodes.length≤120:=by simp at h;omega
 rw [decide_eq_true g4,Bool.true_and] at bN;refine jb ?_;refine ae.b4 [1] C I (σ:=Nat) (fun j=>[(4,.int .i64 (j:Int))]) (fun _=>[]) (fun j=>j≤p.d'.length∧(p.d'.all fun n=>decide (n≥1)&&decide (n≤3))=(p.d'.drop j).all fun n=>decide (n≥1)&&decide (n≤3)) (fun j=>p.d'.length-j) 0 ⟨zero_le _,rfl⟩ (cq C) aX ?_;rintro j ⟨aK,an⟩ I
 try simp only at aK an I ⊢
 refine b7 ?_;refine ae.cond C (fun au=>?_) (fun aV=>?_)
 ·have au:j<p.d'.length:=by simpa using au
  obtain ⟨x,ab,bJ⟩:=b1 (f:=ba) au;rw [drop_cons ab,List.all_cons] at an;unfold ba at bJ;refine dF ?_;by_cases U:x≥1;rotate_left
  ·rw [decide_eq_false U,Bool.false_and,Bool.false_and] at an
   rw [bN,an,if_neg a'] at ch;rw [ch] at gM;refine aa.de 51 C cG ?_;refine e1 ?_;exact Fin.bu (K:=[]) I C aL .nil ⟨_,by rw [gM];rfl⟩
  refine aa.cY 51 C cG ?_;rw [decide_eq_true U,Bool.true_and] at an;refine dF ?_;refine ae.cond C (fun al=>?_) (fun al=>?_)
  ·rw [show decide (x≤3)=false by simp at al ⊢;omega,Bool.false_and] at an
   rw [bN,an,if_neg a'] at ch;rw [ch] at gM;refine ja ?_;exact Fin.bu (K:=[]) I C aL .nil ⟨_,by rw [gM];rfl⟩
  rw [show decide (x≤3)=true by simp at al ⊢;omega,Bool.true_and] at an;refine gd ?_;exact bn.mk (j+1) I ⟨au,an⟩ ca aX (by show p.d'.length-(j+1)<p.d'.length-j;omega)
 have aV:j=p.d'.length:=by simp at aV;omega
 rw [ep ag,List.all_nil] at an;rw [an] at bN;rw [bN,if_pos C] at ch;have VR:∀ n∈p.d',1≤n∧n≤3:=fun n az=>by
  have:=List.all_eq_true.1 an n az;simpa using this
 clear bN e0;refine bC ?_;refine ae.b4 [1] C I (σ:=Nat×qP) (fun q=>[(6,.int .i64 (q.1:Int)),(5,kV q.2 (replicate q.1 (-1)))]) (fun q=>jH q.2 (replicate q.1 (-1))) (fun q=>q.1≤p.nodes.length∧rP q.2 (replicate q.1 (-1))) (fun q=>p.nodes.length-q.1) (0,none) ⟨zero_le _,rfl⟩ (cq C) .nil ?_;rintro ⟨lo,bB⟩ ⟨yg,df⟩ I
 try simp only at yg df I ⊢
 refine b7 ?_;refine ae.cond C (fun au=>?_) (fun dr=>?_)
 ·have au:lo<p.nodes.length:=by simpa using au
  cases bB with
  | none=>
   have VS:lo=0:=by
    have:replicate lo (-1:Int)=[]:=df;simpa using this
   subst VS;dsimp only [kV,jH] at I ⊢;refine dF ?_;refine aa.CK ai I C C C C C C C en C C C C C C C (by show 1*8≤_;omega) (fun aW cd cs' cD dh fa I=>?_);refine fG ?_
   obtain ⟨ea,rfl⟩:∃ ea,cs'=(replicate 1 (-1)).map ba++ea:=⟨cs'.drop 1,by
    conv=>lhs;rw [← take_append_drop 1 cs',fa]
    rfl⟩
   exact bn.mk (1,some (aW,cd,ea)) I ⟨by show 1≤p.nodes.length;omega,by show (replicate 1 (-1)).length+ea.length=cd;rw [← cD];simp;omega⟩ (by repeat (first|exact trivial|refine ⟨⟨_,rfl,aL⟩,?_⟩|refine ⟨⟨_,rfl,aS.of_eq (by (first|rfl|rw [ek ag ag];rfl))⟩,?_⟩)) (by simp only [jH];exact aX) (by show p.nodes.length-1<p.nodes.length-0;omega)
  | some t=>
   obtain ⟨b,cap,ea⟩:=t;have df:(replicate lo (-1:Int)).length+ea.length=cap:=df;rw [length_replicate] at df;dsimp only [kV,jH] at I ⊢;rw [length_replicate];refine dF ?_;refine aa.CL ai I C C C C C C C en C C C C aY cG ag GZ C C C (by show _*8≤_;omega) ag (fun aW cd cs' cD dh fa I=>?_);refine fG ?_;rw [take_left' a'] at fa
   obtain ⟨mS,rfl⟩:∃ mS,cs'=(replicate (lo+1) (-1)).map ba++mS:=⟨cs'.drop (lo+1),by
    conv=>lhs;rw [← take_append_drop (lo+1) cs',fa]
    rw [List.replicate_succ',map_append];rfl⟩
   exact bn.mk (lo+1,some (aW,cd,mS)) I ⟨au,by show (replicate (lo+1) (-1)).length+mS.length=cd;rw [← cD];simp⟩ (by repeat (first|exact trivial|refine ⟨⟨_,rfl,aL⟩,?_⟩|refine ⟨⟨_,rfl,aS.of_eq (by (first|rw [jD ag]|(simp only [kV,length_replicate])))⟩,?_⟩)) (by simp only [jH];exact aX) (by show p.nodes.length-(lo+1)<p.nodes.length-lo;omega)
 have dr:lo=p.nodes.length:=by simp at dr;omega
 subst dr;cases bB with
 | none=>
  have:replicate p.nodes.length (-1:Int)=[]:=df;have:=congrArg List.length this;simp at this;rw [this] at g3;simp at g3
 | some t=>
 obtain ⟨b,cap,ea⟩:=t;have nu:=F0 AS;have gn:(fC 0 p.ck).length<bz:=by
  have:=nu.bo;have e:(b9 p).owner=fC 0 p.ck:=rfl;rw [e] at this;omega
 have gJ:=gJ gn;have lF:=fun f h=>UP (b9 p) nu.kt f h
 have yh:=fun f h=>UM (b9 p) f.size f (Nat.le_refl _) h
 have aU:=fun k=>UY k
 unfold fm fr c9 bf at lF;dsimp only [kV,jH] at I ⊢;rw [length_replicate];refine ej ?_;refine ae.b4 [1,5,7] C I (σ:=Nat×List Int) (fun q=>[(8,.int .i64 (q.1:Int))]) (fun q=>cM b (q.2.map ba++ea)) (fun q=>q.1≤p.methods.length∧nj p p.methods (replicate p.nodes.length (-1))=nj p (p.methods.drop q.1) q.2∧q.2.length=p.nodes.length∧∀ x∈q.2,(-1:Int)≤x) (fun q=>p.methods.length-q.1) (0,replicate p.nodes.length (-1)) ⟨zero_le _,rfl,length_replicate,fun x ab=>by rw [(List.mem_replicate.1 ab).2];exact Int.le_refl _⟩ (cq C) (by simp only [cM];exact aX) ?_;rintro ⟨i,out⟩ ⟨aQ,eL,nm,Hc⟩ I
 try simp only at aQ eL nm Hc I ⊢
 unfold cM at I ⊢;refine b7 ?_;refine ae.cond C (fun au=>?_) (fun kx=>?_)
 ·have au:i<p.methods.length:=by simpa using au
  obtain ⟨m,hm,Ch⟩:=b1 (f:=ll) au;have tf:=aD.facts m (mem_of_getElem? hm);rw [drop_cons hm,nj] at eL;have cF:sZ p m=(decide (m.kind≥1)&&(decide (m.kind≤4)&&(decide (m.gen≥0)&&(decide (m.gen<(p.d'.length:Int))&&(iz (b9 p) m.fact&&decide (lg m.fact≤p.d'.getD m.gen.toNat 0)))))):=rfl;have lF:=lF m.fact ag;have yh:=yh m.fact ag;have aU:=aU m.kind;rw [ak.bX] at lF yh;unfold ak.cells at lF yh;unfold ll nn at Ch;refine ej ?_;by_cases cD:m.kind≥1;rotate_left
  ·refine aN.split 86 C (fun _=>?_) (fun h=>absurd h cG)
   rw [decide_eq_false cD,Bool.false_and] at cF;rw [cF,if_neg a'] at eL;rw [eL,bind_none] at ch;rw [ch] at gM;refine hr ?_;exact Fin.bu (K:=[]) I C aL .nil ⟨_,by rw [gM];rfl⟩
  refine aN.split 86 C (fun h=>absurd h cG) (fun _=>?_);rw [decide_eq_true cD,Bool.true_and] at cF;refine ld ?_;by_cases dh:m.kind≤4;rotate_left
  ·refine aN.split 91 C (fun _=>?_) (fun h=>absurd h cG)
   rw [decide_eq_false dh,Bool.false_and] at cF;rw [cF,if_neg a'] at eL;rw [eL,bind_none] at ch;rw [ch] at gM;refine hr ?_;exact Fin.bu (K:=[]) I C aL .nil ⟨_,by rw [gM];rfl⟩
  refine aN.split 91 C (fun h=>absurd h cG) (fun _=>?_);rw [decide_eq_true dh,Bool.true_and] at cF;refine ld ?_;by_cases fa:m.gen≥0;rotate_left
  ·refine aN.split 96 C (fun _=>?_) (fun h=>absurd h cG)
   rw [decide_eq_false fa,Bool.false_and] at cF;rw [cF,if_neg a'] at eL;rw [eL,bind_none] at ch;rw [ch] at gM;refine hr ?_;exact Fin.bu (K:=[]) I C aL .nil ⟨_,by rw [gM];rfl⟩
  refine aN.split 96 C (fun h=>absurd h cG) (fun _=>?_);rw [decide_eq_true fa,Bool.true_and] at cF;refine ld ?_;by_cases eD:m.gen<(p.d'.length:Int);rotate_left
  ·refine aN.split 104 C (fun _=>?_) (fun h=>absurd h cG)
   rw [decide_eq_false eD,Bool.false_and] at cF;rw [cF,if_neg a'] at eL;rw [eL,bind_none] at ch;rw [ch] at gM;refine hr ?_;exact Fin.bu (K:=[]) I C aL .nil ⟨_,by rw [gM];rfl⟩
  refine aN.split 104 C (fun h=>absurd h cG) (fun _=>?_);rw [decide_eq_true eD,Bool.true_and] at cF;cases jM:iz (b9 p) m.fact with
  | false=>
   rw [jM] at lF;rw [jM,Bool.false_and] at cF;refine bW ?_;rw [cF,if_neg a'] at eL;rw [eL,bind_none] at ch;rw [ch] at gM;skip;exact Fin.bu (K:=[]) I C aL .nil ⟨_,by rw [gM];rfl⟩
  | true=>
  rw [jM] at lF;rw [jM,Bool.true_and] at cF;have yh:=yh (rA _ _ _ _ jM);obtain ⟨q,bq⟩:∃ q:Nat,m.gen=q:=⟨m.gen.toNat,by omega⟩;obtain ⟨y,ay,da⟩:=b1 (f:=ba) (l:=p.d') (j:=q) ag;have AB:p.d'.getD m.gen.toNat 0=y:=by rw [bq,toNat_natCast,getD_eq_getElem?_getD,ay];rfl
  have abg:=VR y (mem_of_getElem? ay);rw [AB] at cF eL;unfold ba at da;rw [bq] at Ch ⊢;refine c1 ?_;refine ae.cond C (fun jl=>?_) (fun jl=>?_)
  ·have jl:¬ lg m.fact≤y:=by simp at jl;omega
   rw [decide_eq_false jl] at cF;rw [cF,if_neg a'] at eL;rw [eL,bind_none] at ch;rw [ch] at gM;refine ja ?_;exact Fin.bu (K:=[]) I C aL .nil ⟨_,by rw [gM];rfl⟩
  have jl:lg m.fact≤y:=by simp at jl;omega
  rw [decide_eq_true jl] at cF;rw [cF,if_pos C] at eL;have qR:=Ms p aD g4 (s0 m.kind) b ea cap 12 (Nat.le_refl _) m.node y ag ag out nm;unfold cA cL bf cM at qR;cases av:visitM p (s0 m.kind) 12 m.node y out with
  | none=>
   rw [av] at qR;rw [av,bind_none] at eL;rw [eL,bind_none] at ch;rw [ch] at gM;refine oF ?_;refine aN.ky rfl rfl rfl rfl rfl rfl qR I (aH.all _) ?_ (fun _ _ ⟨h,_⟩ _=>by cases h);rintro _ _ ⟨⟨⟩,cs,rfl⟩ I;rw [append_nil] at I ⊢;unfold cM at I ⊢;refine hr ?_;skip;exact Fin.bu (K:=[]) I C aL .nil ⟨_,by rw [gM];rfl⟩
  | some ff=>
   have pt:=qJ ag av;have Hd:=LX ag Hc av;rw [av] at qR;rw [av,bind_some] at eL;refine oF ?_;refine aN.ky rfl rfl rfl rfl rfl rfl qR I (aH.all _) ?_ (fun _ _ ⟨h,_⟩ _=>by cases h);rintro _ _ ⟨⟨⟩,rfl⟩ I;rw [append_nil] at I ⊢;unfold cM at I ⊢;refine jE ?_;exact bn.mk (i+1,ff) I ⟨au,eL,by show ff.length=_;omega,Hd⟩ ca (by simp only [cM];exact aX) (by show p.methods.length-(i+1)<p.methods.length-i;omega)
 have kx:i=p.methods.length:=by simp at kx;omega
 rw [ep ag,nj] at eL;rw [eL,bind_some] at ch;have qR:=Ms p aD g4 false b ea cap 12 (Nat.le_refl _) p.main 0 (Int.le_refl _) ag out nm;unfold cA cL bf cM at qR;refine bC ?_;cases av:visitM p false 12 p.main 0 out with
 | none=>
  rw [av] at qR;rw [av,bind_none] at ch;rw [ch] at gM;refine aa.b3 rfl rfl rfl rfl rfl qR I (aH.all _) ?_ (fun _ _ ⟨h,_⟩ _=>by cases h);rintro _ _ ⟨⟨⟩,cs,rfl⟩ I;rw [append_nil] at I ⊢;unfold cM at I ⊢;refine eh ?_;exact Fin.bu (K:=[]) I C aL .nil ⟨_,by rw [gM];rfl⟩
 | some ff=>
 have pt:=qJ (Int.le_refl _) av;have Hd:=LX (Int.le_refl _) Hc av;rw [av] at qR;rw [av,bind_some] at ch;refine aa.b3 rfl rfl rfl rfl rfl qR I (aH.all _) ?_ (fun _ _ ⟨h,_⟩ _=>by cases h);rintro _ _ ⟨⟨⟩,rfl⟩ I;rw [append_nil] at I ⊢;unfold cM at I ⊢;refine bC ?_;refine ae.b4 [1,5] C I (σ:=Nat) (fun j=>[(10,.int .i64 (j:Int))]) (fun _=>cM b (ff.map ba++ea)) (fun j=>j≤p.nodes.length∧(ff.take j).contains (-1)=false) (fun j=>p.nodes.length-j) 0 ⟨zero_le _,rfl⟩ (cq C) (by simp only [cM];exact aX) ?_;rintro uE ⟨He,h8⟩ I
 try simp only at He h8 I ⊢
 unfold cM at I ⊢;refine jS ?_;refine aa.qu ai C C C C C C C ?_;refine fH ?_;refine ae.cond C (fun Hf=>?_) (fun My=>?_)
 ·have Hf:uE<p.nodes.length:=by simpa using Hf
  obtain ⟨z,bO⟩:∃ z,ff[uE]? = some z:=⟨_,getElem?_eq_getElem ag⟩;have GV:=Hd z (mem_of_getElem? bO);have Hg:ff.getD uE 0=z:=by rw [getD_eq_getElem?_getD,bO];rfl
  refine dF ?_;refine aa.fi ai uE C C C C C C C C C C ag ?_;refine aa.jW ai I C C C C C C aY C (G7 ag) ?_;rw [Hg];refine fH ?_;refine ae.cond C (fun az=>?_) (fun az=>?_)
  ·have az:z = -1:=by simp at az;omega
   subst az;rw [show ff.contains (-1)=true from contains_iff_mem.2 (mem_of_getElem? bO),if_pos C] at ch;rw [ch] at gM;refine ja ?_;exact Fin.bu (K:=[]) I C aL .nil ⟨_,by rw [gM];rfl⟩
  have az:z ≠ -1:=by simp at az;omega
  refine gd ?_;exact bn.mk (uE+1) I ⟨Hf,by rw [iA bO,List.contains_append,h8,Bool.false_or];simpa using fun e=>az e.symm⟩ ca (aH.all _) (by show p.nodes.length-(uE+1)<p.nodes.length-uE;omega)
 have My:uE=p.nodes.length:=by simp at My;omega
 rw [take_of_length_le ag] at h8;rw [h8,if_neg a'] at ch;rw [ch] at gM;refine dN ?_;exact Fin.bu (K:=[]) I C aL .nil ⟨_,by rw [gM];rfl⟩
theorem VT (p:bP) (aD:fj p):aR Tryz.prog 45 [cA p] (.bool (gy p)):=by
 have U:=VQ p aD;refine aR.bh ai Tryz.func45 C C fun s I=>?_
 unfold cA cL at *;refine dv ?_;refine aa.b3 rfl rfl rfl rfl rfl U I .nil ?_ (fun _ _ ⟨_,h⟩ _=>by cases h);rintro _ aO ⟨v,⟨⟩⟩ I;refine eh ?_;exact bl I
end Go.Proofs.YtnafpeohfbglmaaGreat
namespace Go.eb
theorem Mz {s x:Int} {l:List Int}:x∈mQ s l↔x=s∨x∈l:=by
 unfold mQ;split
 ·rename_i h
  constructor
  ·exact .inr
  ·rintro (rfl|ad)
   ·simpa using h
   ·exact ad
 ·rw [List.mem_mergeSort,mem_append,mem_singleton]
  exact Or.comm
theorem MA (k:dk) (x:cf):(k.ask x).bo=k.bo:=by
 unfold dk.ask
 repeat' split
 all_goals rfl
def qS (w:bx) (σ:dT):Prop:=∀ q,(2≤q.getD 1 0→(σ q).bo=[])∧∀ x∈(σ q).bo,0≤x∧x<(w.owner.length:Int)
theorem qS.hP {w:bx} {σ:dT} (h:qS w σ) {sp:List Int} {k:dk} (aE:(2≤sp.getD 1 0→k.bo=[])∧∀ x∈k.bo,0≤x∧x<(w.owner.length:Int)):qS w (σ.hP sp k):=by
 intro q;unfold dT.hP;by_cases e:q=sp
 ·rw [if_pos e,e];exact aE
 ·rw [if_neg e];exact h q
theorem MB {w:bx} {neg:Bool} {arg:Int} {path:List Int} (aD:path.length≤2) (ar:∀ s∈path,0≤s∧s<(w.owner.length:Int)):∀ (j:Nat),j≤path.length→∀ σ,qS w σ→qS w (gS neg arg path j σ)
  | 0,_,σ,h=>by
    rw [gS];exact h.hP (h _)
  | j+1,aK,σ,h=>by
    have U:=MB (neg:=neg) (arg:=arg) aD ar j ag σ h;rw [gS];generalize gS neg arg path j σ=Hh at U;have au:j<path.length:=by omega
    have ad:qS w (Hh.hP (bs arg (path.take j)) ((Hh (bs arg (path.take j))).slot (path.getD j 0))):=by
      refine U.hP ⟨fun ad=>?_,fun x ab=>?_⟩
      · exfalso
        have:(bs arg (path.take j)).getD 1 0=((path.take j).length:Int):=rfl;rw [this,length_take] at ad;omega
      · have ab:x∈mQ (path.getD j 0) (Hh (bs arg (path.take j))).bo:=ab
        rcases Mz.1 ab with rfl|ab
        · rw [getD_eq_getElem?_getD,getElem?_eq_getElem au]
          exact ar _ (getElem_mem au)
        · exact (U _).2 x ab
    exact ad.hP (ad _)
theorem Dt {w:bx} {f:ak} (h:hX w f=true) (aB:f.cW=true):f.path.length≤2∧∀ s∈f.path,0≤s∧s<(w.owner.length:Int):=by
 simp only [hX,aB,if_true,Bool.and_eq_true,decide_eq_true_eq,List.all_eq_true] at h;exact ⟨h.2.2.2.2.2.1,fun s ar=>by have:=h.2.2.2.2.2.2.1 s ar;omega⟩
theorem VU {w:bx} {x:cf} (az:hX w x.1=true) (aB:x.1.cW=true) {σ:dT} (h:qS w σ):qS w (addLit σ x):=by
 obtain ⟨U,ad⟩:=Dt az aB;have al:=MB (neg:=x.2) (arg:=x.1.arg) U ad x.1.path.length (Nat.le_refl _) σ h;unfold addLit;simp only;refine al.hP ?_;rw [MA];exact al _
theorem VV {w:bx} {l:List cf} (h:∀ x∈l,hX w x.1=true∧x.1.cW=true):qS w (et l):=by
 unfold et;have key:∀ (l:List cf) (σ:dT),(∀ x∈l,hX w x.1=true∧x.1.cW=true)→qS w σ→qS w (l.foldl addLit σ):=by
  intro l
  induction l with
  | nil=>exact fun σ _ h=>h
  | cons x r a1=>
   intro σ ab VW;exact a1 _ (fun y ay=>ab y (mem_cons_of_mem _ ay)) (VU (ab x mem_cons_self).1 (ab x mem_cons_self).2 VW)
 exact key l wC h (fun q=>⟨fun _=>rfl,fun x ab=>by cases ab⟩)
def tg (w:bx) (L:List cf):Prop:=∀ x∈L,hX w x.1=true∧x.1.cW=true
def ij (x:cf):ak:=if x.2 then x.1.not else x.1
def rS (arg:Int) (path:List Int) (x:cf):Bool:=decide (x.1.arg=arg)&&x.1.path==path
def fo (L:List cf) (arg:Int) (path:List Int):List cf:=L.filter (rS arg path)
def uF (path Hi:List Int):Bool:=decide (path.length≥Hi.length)&&path.take Hi.length==Hi
def kX (arg:Int) (path:List Int) (x:cf):Bool:=decide (x.1.arg=arg)&&uF x.1.path path
def mT (L:List cf) (arg:Int) (path:List Int) (s:Int):Bool:=L.any (kX arg (path++[s]))
def jI (n:Nat) (L:List cf) (arg:Int) (path:List Int):List Int:=((range n).filter fun s=>mT L arg path (s:Nat)).map fun s:Nat=>(s:Int)
def lp (L:List cf) (arg:Int) (path:List Int):Bool := !L.any fun x => !x.2&&kX arg path x
def th (n:Nat) (L:List cf) (arg:Int) (path:List Int):Bool:=(jI n L arg path).all fun s=>lp L arg (path++[s])
def oX:List cf→Int×Int×List Int→Option (Int×Int×List Int)
 | [],a=>some a
 | x::r,a=>
  if x.1.op=2 then (if decide (x.1.cls>1) != x.2 then none else oX r a)
  else if x.1.op=3 then (if x.2 then oX r (max a.1 x.1.n,a.2.1,a.2.2) else oX r (a.1,min a.2.1 (x.1.n-1),a.2.2))
  else if x.2 then oX r (a.1,a.2.1,a.2.2++[x.1.n])
  else oX r (max a.1 x.1.n,min a.2.1 x.1.n,a.2.2)
def AT:Nat→Int→List Int→Int
 | 0,n,_=>n
 | k+1,n,l=>if l.contains n then AT k (n+1) l else n
def uG (n:Nat) (L:List cf) (arg:Int) (path:List Int):Bool:=
 match oX (fo L arg path) (-1000000000,1000000000,[]) with
 | none=>false
 | some a=>decide (AT (a.2.2.length+1) a.1 a.2.2≤a.2.1)&&th n L arg path
def qT (x:cf):Bool:=(decide (x.1.op=2)&&(decide (x.1.cls=0)||decide (x.1.cls=2)))==x.2
def wM (n:Nat) (L:List cf) (arg:Int) (path:List Int):Bool:=((fo L arg path).all fun x => !qT x)&&th n L arg path
def pT:List cf→(Nat→Bool)×(Nat→Bool)→Option ((Nat→Bool)×(Nat→Bool))
 | [],a=>some a
 | x::r,a=>
  if x.1.op≠2∨x.1.cls=1∨x.1.cls=2 then (if x.2 then pT r a else none)
  else if x.2 then pT r (a.1,fun k=>if k=x.1.cls.toNat then true else a.2 k)
  else pT r (fun k=>if k=x.1.cls.toNat then true else a.1 k,a.2)
def rT (w:bx) (L:List cf) (cn:List Int→Bool) (arg:Int) (path:List Int):List Int→(Nat→Bool)×(Nat→Bool)→Option ((Nat→Bool)×(Nat→Bool))
 | [],a=>some a
 | s::r,a=>
  if !lp L arg (path++[s]) && !cn (path++[s]) then none
  else rT w L cn arg path r (if lp L arg (path++[s]) then a.1 else fun k=>if k=(w.owner.getD s.toNat 0).toNat then true else a.1 k,
   if cn (path++[s]) then a.2 else fun k=>if k=(w.owner.getD s.toNat 0).toNat then true else a.2 k)
def wN (w:bx) (L:List cf) (cn:List Int→Bool) (arg:Int) (path:List Int):Bool:=
  match pT (fo L arg path) (fun _=>false,fun _=>false) with
  | none=>false
  | some a=>match rT w L cn arg path (jI w.owner.length L arg path) a with
    | none=>false
    | some a => !a.2 0&&(range (3+w.ps.length)).all fun k => !(hj w.ps w.ps.length (fun k=>if k=0 then false else a.1 k) k&&a.2 k)
def oY (w:bx) (L:List cf) (arg:Int):Nat→List Int→Bool
 | 0,_=>false
 | k+1,path=>uG w.owner.length L arg path||(wM w.owner.length L arg path||wN w L (oY w L arg k) arg path)
def Du (w:bx) (L:List cf):Bool:=(range 3).all fun a=>oY w L ((a:Nat):Int) 3 []
end Go.eb
namespace Go.Proofs.YtnafpeohfbglmaaGreat
open Go.cU Go.eb
def n5 (L:List cf):af := .aA 6 (L.map fun x=>(ij x).bK) .bb
def kB (w:bx) (L:List cf) (arg:Int) (path:List Int):af := .agg [c9 w.ps,bf w.owner,n5 L,.int .i64 arg,bf path,.bool false]
theorem yi (x:cf) (ab:x.1.cW=true):aR Tryz.prog 213 [(ij x).bK] (.cp [x.1.bK,.bool x.2]):=by
 have aq:=bA;refine aR.bh ai Tryz.func213 C C fun s I=>?_
 obtain ⟨⟨o,a,p,c,n,ks⟩,b⟩:=x;have ab:(ak.mk o a p c n ks).cW=true:=ab;have ay:([ak.mk o a p c n ks].map ak.bK)[0]? = some (ak.mk o a p c n ks).bK:=rfl;unfold ak.cW at ab;simp only [ak.op] at ab;have bD:o≠5:=fun e=>by subst e;simp at ab
 unfold ij;cases b with
 | true=>
  rw [if_pos C];simp only [ak.bX,ak.cells,ak.not,ak.op,ak.arg,ak.path,ak.cls,ak.n,ak.kids] at ay ⊢
  repeat (first|(refine Sl I ?_;clear I;intro I)|refine aa.dY ai I rfl rfl rfl rfl rfl rfl rfl (fun cJ I=>?_))
  exact Fin.cx I (vV C C (bp.get aY I) C C) aL
 | false=>
  rw [if_neg a'];simp only [ak.bX,ak.cells,ak.not,ak.op,ak.arg,ak.path,ak.cls,ak.n,ak.kids]
  repeat (first|(refine CH ?_)|refine aa.dY ai I C C C C C C C (fun cJ I=>?_))
  refine ae.cond C (fun h=>absurd fD bD) (fun _=>?_);refine cI I ?_;intro I;exact Fin.cx I (vV C C (bp.get aY I) C C) aL
theorem MC (a b:List Int) (a7:a.length<bz) (dI:b.length<bz):aR Tryz.prog 250 [bf a,bf b] (.bool (uF a b)):=by
 have aq:=bA;refine aR.bh ai Tryz.func250 C C fun s I=>?_
 unfold bf uF;by_cases h:b.length≤a.length
 ·have U:=s3 (a.take b.length) b tA dI
  rw [decide_eq_true h,Bool.true_and];unfold bf at U;rw [List.map_take] at U;have e:(b.map ba).length=b.length:=length_map _;rw [← e] at U;refine dv ?_;refine aa.de 10 C fD ?_;refine dy ?_;refine aa.slice ai 0 (b.map ba).length C C C C C C C C (.inr C) (.inl ⟨rfl,rfl⟩) (.inr ⟨_,_,rfl,rfl⟩) (.inl ⟨rfl,rfl⟩) (zero_le _) fD ?_;rw [drop_zero];refine c1 ?_;exact Fin.cx I C (aS.of_eq (by rw [e]))
 ·rw [decide_eq_false h,Bool.false_and]
  refine dv ?_;refine aa.cY 10 C fD ?_;refine eh ?_;exact bl I
theorem Hj (w:bx) (L:List cf) (arg:Int) (path:List Int) (bB:Int) (aD:path.length≤3):aR Tryz.prog 216 [kB w L arg path,.int .i64 bB] (kB w L arg (path++[bB])):=by
 have aq:=bA;refine aR.bh ai Tryz.func216 C C fun s I=>?_
 unfold kB n5 c9 bf;refine jS ?_;refine aa.dY ai I C C C C C C C (fun n6 I=>?_);refine hq ?_;refine ae.qn ai mixed C (bc.run C ?_);refine bm.zI 8 ai I C C C C C C C C C en C C C (.inr C) C (Gz _) C (length_map _).symm (by show path.length*8≤_;omega) ag (fun _ _ => .inl trivial) (fun ef I=>?_);refine bc.run C ?_;refine bm.gb 11 ai I C C C C C C C C C en C C C C C C C C .here (length_map _).symm j9 ag (fun _ _ => .inl trivial) (fun di I=>?_);refine bc.run C ?_;refine bc.cT 15 ai I C C C C C C C C C C C aY b6 (fun I=>?_);refine bc.run C ?_;refine bc.done C ?_;refine eu ?_;exact Fin.cx I (nO C C (bp.get aY I) C) (aS.agg (.cons aL (.cons aL (.cons aL (.cons aL (.cons (aS.of_eq (by rw [map_append];rfl) |>.trans aS.bb) (.one aL)))))))
def uH (g:Nat) (l:List Int) (ea:List af):a8:=[(.own g,.box 3 (l.map ba++ea))]
theorem VX (g cap:Nat) (l:List Int) (ea:List af) (n:Int) (aB:l.length<bz):bE Tryz.prog 92 [eo g l.length cap,.int .i64 n] (uH g l ea) (fun o K=>o = .ret (.int .i64 (match l.findIdx? (· == n) with
  | some i=>(i:Int)
  | none => -1))∧K=uH g l ea):=by
 have aq:=bA;refine bE.bh ai Tryz.func92 C C fun s I=>?_
 unfold uH at I ⊢;refine dv ?_;refine aa.qu ai C C C C C C C ?_;refine dF ?_;refine ae.b4 [0,1,7] C I (σ:=Nat) (fun j=>[(8,.int .i64 (j:Int))]) (fun _=>uH g l ea) (fun j=>j≤l.length∧∀ i,i<j→l[i]? ≠ some n) (fun j=>l.length-j) 0 ⟨zero_le _,fun i aQ=>absurd aQ (not_lt_zero _)⟩ (cq C) (aH.all _) ?_;rintro j ⟨aK,an⟩ I;unfold uH at I ⊢;refine b7 ?_;refine ae.cond C (fun au=>?_) (fun aV=>?_);rotate_left
 ·have aV:j=l.length:=by simp at aV;omega
  have ab:l.findIdx? (· == n)=none:=by
   rw [findIdx?_eq_none_iff];intro z bO;obtain ⟨i,aQ⟩:=List.getElem?_of_mem bO;have U:=qB aQ;have ad:=an i ag;simp only [beq_eq_false_iff_ne];intro e;subst e;exact ad aQ
  rw [ab];refine dN ?_;exact Fin.bu I C aL (aH.all _) ⟨rfl,rfl⟩
 have au:j<l.length:=by simpa using au
 obtain ⟨y,ay⟩:∃ y,l[j]? = some y:=⟨_,getElem?_eq_getElem au⟩;have da:(l.map ba++ea)[j]? = some (.int .i64 y):=by
  rw [getElem?_append_left (by simpa using au)];simp [ay,ba]
 refine bC ?_;refine aa.fi ai j C C C C C C C C C C au ?_;refine aa.jW ai I C C C C C C aY C (by show (l.map ba++ea)[j*1]? = _;rw [mul_one];exact da) ?_;refine fH ?_;refine ae.cond C (fun az=>?_) (fun az=>?_)
 ·have az:n=y:=by simpa using az
  subst az;have ab:l.findIdx? (· == n)=some j:=by
   rw [List.findIdx?_eq_some_iff_getElem];refine ⟨au,by simpa using (List.getElem?_eq_some_iff.1 ay).2,fun i aQ=>?_⟩;have:=an i aQ;rw [getElem?_eq_getElem ag] at this;simpa using this
  rw [ab];refine ja ?_;exact Fin.bu I C aL (aH.all _) ⟨rfl,rfl⟩
 ·have az:n≠y:=by simpa using az
  refine gd ?_;refine bn.mk (j+1) I ⟨au,fun i aQ=>?_⟩ ca (aH.all _) mO;rcases Nat.lt_succ_iff_lt_or_eq.1 aQ with aQ|rfl
  ·exact an i aQ
  ·rw [ay];intro e;cases e;exact az C
theorem MD (g cap:Nat) (l:List Int) (ea:List af) (n:Int) (aB:l.length<bz):bE Tryz.prog 43 [eo g l.length cap,.int .i64 n] (uH g l ea) (fun o K=>o = .ret (.bool (l.contains n))∧K=uH g l ea):=by
 rw [← KG];have h:=VX g cap l ea n aB;refine bE.bh ai Tryz.func43 C C fun s I=>?_
 refine dv ?_;refine aa.b3 rfl rfl rfl rfl rfl h I (aH.all _) ?_ (fun _ _ ⟨h,_⟩ _=>by cases h);rintro _ _ ⟨⟨⟩,rfl⟩ I;rw [append_nil] at I ⊢;refine eu ?_;exact Fin.bu I C aL (aH.all _) ⟨rfl,rfl⟩
theorem VY (bB:qP) (l:List Int) (n:Int) (ar:rP bB l) (aB:l.length<bz):bE Tryz.prog 43 [kV bB l,.int .i64 n] (jH bB l) (fun o K=>o = .ret (.bool (l.contains n))∧K=jH bB l):=by
 cases bB with
 | none=>
  have:l=[]:=ar;subst this;have h:=xX [] n dZ;unfold bf at h;have h:=aR.args (show cR [.aA 0 [] .nil,.int .i64 n] [.aA 1 ([].map ba) .bb,.int .i64 n] from .cons aS.empty (.one aL)) h;exact fun s _=>hd.mono (h s) (fun o aj ⟨U,ad⟩=>⟨[],ad,trivial,U,rfl⟩)
 | some x=>
  obtain ⟨g,cap,ea⟩:=x;exact MD g cap l ea n aB
def yj (σ:dT) (mb:Nat) (pre:List fQ) (e:fQ) (post:List fQ):a8:=qO mb (mR (pre++e::post))::(pre.flatMap (iE σ)++post.flatMap (iE σ))
theorem Dv (σ:dT) (mb:Nat) (pre:List fQ) (e:fQ) (post:List fQ):(lS σ mb (pre++e::post)).Perm (iE σ e++yj σ mb pre e post):=by
 unfold lS yj;rw [List.flatMap_append,flatMap_cons];refine (Perm.cons _ ?_).trans perm_middle.symm;exact List.perm_append_comm_assoc _ _ _
theorem VZ {σ σ':dT} {mb:Nat} {pre:List fQ} {e e':fQ} {post:List fQ} (dA:e'.sp=e.sp) (aq:e'.b=e.b) (ar:∀ x∈pre++post,σ' x.sp=σ x.sp):(iE σ' e'++yj σ mb pre e post).Perm (lS σ' mb (pre++e'::post)):=by
 have U:mR (pre++e'::post)=mR (pre++e::post):=by unfold mR;simp [dA,aq]
 have ad:∀ l:List fQ,(∀ x∈l,σ' x.sp=σ x.sp)→l.flatMap (iE σ')=l.flatMap (iE σ):=fun l aB=>by
  induction l with
  | nil=>rfl
  | cons x r a1=>
   rw [flatMap_cons,flatMap_cons,a1 (fun y ay=>aB y (mem_cons_of_mem _ ay))];unfold iE;rw [aB x mem_cons_self]
 refine Perm.trans ?_ (Dv σ' mb pre e' post).symm;unfold yj;rw [U,ad pre (fun x ab=>ar x (mem_append_left _ ab)),ad post (fun x ab=>ar x (List.mem_append_right _ ab))]
theorem oW.apart {n:Nat} {σ:dT} {pre:List fQ} {e:fQ} {post:List fQ} (h:oW n σ (pre++e::post)):∀ x∈pre++post,x.sp≠e.sp:=by
 have az:=h.nodup;rw [map_append,List.map_cons,List.nodup_append] at az;obtain ⟨U,ad,al⟩:=az;intro x ab bY;rcases mem_append.1 ab with ab|ab
 ·exact al x.sp (mem_map.2 ⟨x,ab,rfl⟩) e.sp mem_cons_self bY
 ·rw [List.nodup_cons] at ad
  exact ad.1 (mem_map.2 ⟨x,ab,bY⟩)
theorem oW.hP {n m:Nat} {σ:dT} {pre:List fQ} {e e':fQ} {post:List fQ} (h:oW n σ (pre++e::post)) (dA:e'.sp=e.sp) (abh:n≤m) {k:dk} (aE:ml m k) (df:rP e'.bB k.bo):oW m (σ.hP e.sp k) (pre++e'::post):=by
 have a7:=h.apart;have hm:(pre++e'::post).map fQ.sp=(pre++e::post).map fQ.sp:=by simp [dA]
 refine ⟨fun x ab=>?_,by rw [hm];exact h.nodup,fun q bq=>?_,fun x ab=>?_,fun q=>?_⟩
 ·rcases mem_append.1 ab with ab|ab
  ·exact h.four x (mem_append_left _ ab)
  ·rcases mem_cons.1 ab with rfl|ab
   ·rw [dA];exact h.four e a'
   ·exact h.four x (by simp [ab])
 ·rw [hm] at bq
  unfold dT.hP;rw [if_neg (fun bY=>bq (by rw [bY];simp))];exact h.rest q bq
 ·by_cases ME:x=e'
  ·subst ME
   unfold dT.hP;rw [if_pos dA];exact df
  ·have ab:x∈pre++post:=by
    rcases mem_append.1 ab with ab|ab
    ·exact mem_append_left _ ab
    ·rcases mem_cons.1 ab with rfl|ab
     ·exact absurd C ME
     ·exact List.mem_append_right _ ab
   unfold dT.hP;rw [if_neg (a7 x ab)];exact h.bB x (by rcases mem_append.1 ab with ab|ab<;>simp [ab])
 ·unfold dT.hP
  split
  ·exact aE
  ·obtain ⟨dW,a2,a3,a4,a5⟩:=h.mm q
   exact ⟨dW,a2,by omega,by omega,a5⟩
end Go.Proofs.YtnafpeohfbglmaaGreat
namespace Go.cU
theorem bp.Hk {L R:a8} {k:bL} {o:dC} (h:bp L k o R):L.Perm ((k,o)::R):=by
 induction h with
 | here=>exact .refl _
 | there _ a1=>exact (Perm.cons _ a1).trans (Perm.swap _ _ _)
theorem aH.Hk {L K R:a8} (h:aH L K R):L.Perm (K++R):=by
 induction h with
 | nil=>exact .refl _
 | cons h t a1=>exact h.Hk.trans (Perm.cons _ a1)
theorem aH.V0 {L A B:a8} (h:aH L A []) (p:A.Perm B):aH L B []:=aH.ih ((by have:=h.Hk;rw [append_nil] at this;exact this:L.Perm A).trans p)
end Go.cU
namespace Go.Proofs.YtnafpeohfbglmaaGreat
open Go.cU Go.eb
theorem V1 (arg:Int) (path:List Int) (j:Nat) (bB:Int) (aK:path[j]? = some bB) (ad:j<2) :
  aR Tryz.prog 281 [iD (bs arg (path.take j)),.int .i64 bB] (iD (bs arg (path.take (j+1)))):=by
 match path,j,aK,ad with
 | a::r,0,aK,_=>
  have:a=bB:=by simpa using aK
  subst this;exact Mg arg 0 0 a
 | a::b::r,1,aK,_=>
  have:b=bB:=by simpa using aK
  subst this;exact Mh arg a 0 b
theorem V2 {σ:dT} {e e':fQ} {k:dk} (h:e'.sp=e.sp):iE (σ.hP e.sp k) e'=oV e'.b k e'.on (kV e'.bB k.bo)++jH e'.bB k.bo:=by
 unfold iE dT.hP;rw [if_pos h]
theorem V3 (bB:qP) (l:List Int):e7 (kV bB l)=true:=by
 cases bB with
 | none=>rfl
 | some x=>rfl
theorem V4 (arg:Int):bs arg []=[arg,0,0,0]:=rfl
def kC (bS:Nat) (sp:List Int) (σ:dT) (mb:Nat) (pre:List fQ) (e:fQ) (post:List fQ) (kb:Nat) (k:dk) (on:bL) (bB:qP):a8:=
 (.own bS,.box 319 (sp.map (af.int .i64)))::(.own kb,.box 340 (kA k (.aA 1 (k.eX.map ba) on) (kV bB k.bo)))::(on,.row 3 1 k.eX.length)::(jH bB k.bo++yj σ mb pre e post)
theorem MF (bS:Nat) (sp:List Int) (σ:dT) (mb:Nat) (pre:List fQ) (e:fQ) (post:List fQ):(lS σ mb (pre++e::post)++[((bL.own bS,dC.box 319 (sp.map (af.int .i64))):bL×dC)]).Perm (kC bS sp σ mb pre e post e.b (σ e.sp) e.on e.bB):=
 (List.perm_append_comm.trans (Perm.cons _ (Dv σ mb pre e post)))
theorem Dw {bS:Nat} {sp:List Int} {σ:dT} {mb n:Nat} {pre:List fQ} {e:fQ} {post:List fQ} (cF:oW n σ (pre++e::post)) (k:dk) (on:bL) (bB:qP):(kC bS sp σ mb pre e post e.b k on bB).Perm ((.own bS,.box 319 (sp.map (af.int .i64)))::lS (σ.hP e.sp k) mb (pre++⟨e.sp,e.b,on,bB⟩::post)):=by
 refine Perm.cons _ ?_;have h:=VZ (σ:=σ) (σ':=σ.hP e.sp k) (mb:=mb) (pre:=pre) (e:=e) (e':=⟨e.sp,e.b,on,bB⟩) (post:=post) C C (fun x ab=>by unfold dT.hP;rw [if_neg (cF.apart x ab)]);rw [V2 (e:=e) (e':=⟨e.sp,e.b,on,bB⟩) C] at h;exact h
theorem ml.mono {n m:Nat} (h:n≤m) {k:dk} (aE:ml n k):ml m k:=⟨aE.fP,aE.no,by have:=aE.eX;omega,by have:=aE.bo;omega,aE.num⟩
theorem V5 (s:Int) (l:List Int):(mQ s l).length≤l.length+1:=by
 unfold mQ;split
 ·omega
 ·rw [List.length_mergeSort];simp
theorem aH.V6 {L A B:a8} (h:L.Perm (A++B)):∃ R,aH L A R:=by
 induction A generalizing L with
 | nil=>exact ⟨L,.nil⟩
 | cons x A a1=>
  obtain ⟨k,o⟩:=x;obtain ⟨a,b,iC⟩:=append_of_mem (h.symm.subset (mem_append_left _ mem_cons_self));rw [iC] at h;have ad:(a++b).Perm (A++B):=(List.perm_cons _).1 (perm_middle.symm.trans h);obtain ⟨R,dV⟩:=a1 ad;exact ⟨R,.cons (bp.AN iC) dV⟩
theorem ml.need {n:Nat} {k:dk} (h:ml n k) (neg:Bool):ml n (k.need neg):=⟨h.fP,h.no,h.eX,h.bo,h.num⟩
theorem ml.slot {n:Nat} {k:dk} (h:ml n k) (s:Int):ml (n+1) (k.slot s):=⟨h.fP,h.no,by have:=h.eX;show k.eX.length≤_;omega,by have:=h.bo;have:=V5 s k.bo;show (mQ s k.bo).length≤_;omega,h.num⟩
theorem ml.ask {n:Nat} {k:dk} (h:ml n k) {w:bx} (hw:w.ps.length≤60) {x:cf} (ab:tb w x):ml (n+1) (k.ask x):=by
 have iM:=x'.of ab.node ab.leaf;have n3:=ab.num;obtain ⟨U,ad,al,bd,bD⟩:=h;unfold dk.ask;split
 ·rename_i b2
  have aC:=iM.cls b2;have aD:2^x.1.cls.toNat<2^64:=Nat.pow_lt_pow_right ag ag;split
  ·exact ⟨U,or_lt_two_pow ad aD,by simp only;omega,by simp only;omega,bD⟩
  ·exact ⟨or_lt_two_pow U aD,ad,by simp only;omega,by simp only;omega,bD⟩
 ·split
  ·split
   ·exact ⟨U,ad,by simp only;omega,by simp only;omega,by simp only;omega⟩
   ·exact ⟨U,ad,by simp only;omega,by simp only;omega,by simp only;omega⟩
  ·split
   ·exact ⟨U,ad,by simp only [length_append,List.length_singleton];omega,by simp only;omega,bD⟩
   ·exact ⟨U,ad,by simp only;omega,by simp only;omega,by simp only;omega⟩
theorem MG (k:dk) (x:cf):(k.ask x).bo=k.bo:=by
 unfold dk.ask;split
 ·split<;>rfl
 ·split
  ·split<;>rfl
  ·split<;>rfl
theorem V7 (w:bx) (hw:w.ps.length≤60) (mb n:Nat) (σ:dT) (es:List fQ) (cF:oW n σ es) (az:n+3<bz) (x:cf) (ab:tb w x) :
  bE Tryz.prog 269 [h1 w mb,hZ x] (lS σ mb es) (fun o K=>o = .ret (.cp [])∧∃ du,K=lS (addLit σ x) mb du∧oW (n+3) (addLit σ x) du):=by
 have aq:=bA;have iM:=x'.of ab.node ab.leaf;have Hl:=Ml w mb n σ es cF x.1.arg 0 0 0;obtain ⟨f,neg⟩:=x;simp only at iM Hl;have h4:=iM.path;refine bE.bh ai Tryz.func269 C C fun s I=>?_
 unfold h1 at Hl;unfold hZ pH ak.cells;unfold h1
 repeat (first|(refine J7 I ?_;clear I;intro I)|refine aa.dY ai I rfl rfl rfl rfl rfl rfl rfl (fun cJ I=>?_))
 refine aa.b3 rfl rfl rfl rfl rfl Hl I (aH.all _).there ?_ (fun _ _ ⟨_,_,_,_,h,_⟩ _=>by cases h);rintro _ _ ⟨pre,e,post,dA,⟨⟩,rfl,cF⟩ I;refine aa.run ai C (aa.nil ?_);refine b5 ?_;refine ae.l9 I (kC cJ (bs f.arg []) σ mb pre e post e.b (σ e.sp) e.on e.bB) (aH.ih (MF cJ (bs f.arg []) σ mb pre e post)) (fun aE=>?_);revert aE
 repeat clear I
 intro I;refine ae.Sb (σ:=Unit) (fun _=>[(0,h1 w mb),(3,.bw (pH (f,neg)) 0),(4,.ptr cJ 0),(5,.ptr e.b 0) ]) (fun _=>kC cJ (bs f.arg []) σ mb pre e post e.b ((σ e.sp).need neg) e.on e.bB) (fun _=>True) ?_ ?_
 ·unfold kC kA dk.need
  unfold kC kA at I;cases eF:(σ e.sp).gz<;>rw [eF] at I<;>cases neg
  all_goals
   refine cI I ?_;intro I;exact lJ.mk () I trivial (cq C) Dn
 rintro _-I;refine gm ?_;refine ae.b4 [0,3,4,29,30] C I (σ:=Nat×List fQ×fQ×List fQ) (fun q=>[(31,.int .i64 (q.1:Int)),(5,.ptr q.2.2.1.b 0)]) (fun q=>(.own cJ,.box 319 ((bs f.arg (f.path.take q.1)).map (af.int .i64)))::lS (gS neg f.arg f.path q.1 σ) mb (q.2.1++q.2.2.1::q.2.2.2))
  (fun q=>q.1≤f.path.length∧q.2.2.1.sp=bs f.arg (f.path.take q.1)∧oW (n+q.1) (gS neg f.arg f.path q.1 σ) (q.2.1++q.2.2.1::q.2.2.2)) (fun q=>f.path.length-q.1) (0,pre,e,post) ⟨zero_le _,dA,?_⟩ (cq C) (aH.ih ?_) ?_
 ·have:=cF.hP (e':=e) C (Nat.le_refl _) ((cF.mm e.sp).need neg) (cF.bB e a')
  rw [dA] at this;exact this
 ·have bt:gS neg f.arg f.path 0 σ=σ.hP e.sp ((σ e.sp).need neg):=by rw [gS,V4,dA]
  show Perm _ (((bL.own cJ,dC.box 319 ((bs f.arg []).map (af.int .i64))):bL×dC)::lS (gS neg f.arg f.path 0 σ) mb (pre++e::post));rw [bt];exact Dw (mb:=mb) (bS:=cJ) (sp:=bs f.arg []) cF ((σ e.sp).need neg) e.on e.bB
 rintro ⟨j,pre,e,post⟩ ⟨aK,dA,cF⟩ I;simp only at aK dA cF I ⊢;generalize ch:gS neg f.arg f.path j σ=S at cF I ⊢;have aE:=cF.mm e.sp;refine b7 ?_;refine ae.cond C (fun au=>?_) (fun aV=>?_);rotate_left
 ·have aV:j=f.path.length:=by simp at aV;omega
  subst aV;rw [take_length] at dA I ⊢;have aF:addLit σ (f,neg)=S.hP e.sp ((S e.sp).ask (f,neg)):=by
   unfold addLit;simp only;rw [ch,dA]
  have MH:=Vt w hw e.b (S e.sp) ⟨aE.fP,aE.no,by have:=aE.eX;omega⟩ aE.num e.on (kV e.bB (S e.sp).bo) (V3 _ _) (f,neg) ab;refine ae.l9 I (kC cJ (bs f.arg f.path) S mb pre e post e.b (S e.sp) e.on e.bB) (aH.ih (Perm.cons _ (Dv S mb pre e post))) (fun aE=>?_);revert aE
  repeat clear I
  intro I;unfold hZ pH ak.cells at MH;unfold kC at I ⊢;refine bC ?_;refine aa.b3 rfl rfl rfl rfl rfl MH I (.cons (.there .here) (.cons (.there .here) .nil)) ?_ (fun _ _ ⟨h,_⟩ _=>by cases h);rintro _ _ ⟨⟨⟩,wD,rfl⟩ I;refine fH ?_;have p4:=Dw (mb:=mb) (bS:=cJ) (sp:=bs f.arg f.path) cF ((S e.sp).ask (f,neg)) wD e.bB;rw [← aF] at p4;unfold kC at p4;rw [MG] at p4;have AU:(oV e.b ((S e.sp).ask (f,neg)) wD (kV e.bB (S e.sp).bo)++((.own cJ,.box 319 ((bs f.arg f.path).map (af.int .i64)))::(jH e.bB (S e.sp).bo++yj S mb pre e post))).Perm (lS (addLit σ (f,neg)) mb (pre++⟨e.sp,e.b,wD,e.bB⟩::post)++[(.own cJ,.box 319 ((bs f.arg f.path).map (af.int .i64)))]):=by
   refine Perm.trans ?_ ((p4.trans ?_))
   ·exact perm_middle (l₁:=oV e.b ((S e.sp).ask (f,neg)) wD (kV e.bB (S e.sp).bo))
   ·exact List.perm_append_comm (l₁:=[((bL.own cJ,dC.box 319 ((bs f.arg f.path).map (af.int .i64))):bL×dC)])
  obtain ⟨dt,V8⟩:=aH.V6 AU;refine Fin.bu I C aL V8 ⟨rfl,_,rfl,?_⟩;rw [aF];refine cF.hP (e':=⟨e.sp,e.b,wD,e.bB⟩) C ag ((aE.ask hw ab).mono ag) ?_;rw [MG];exact cF.bB e a'
 have au:j<f.path.length:=by simpa using au
 obtain ⟨bB,ay,da⟩:=b1 (f:=fun i=>af.int .i64 i) au;have j7:f.path.getD j 0=bB:=by rw [getD_eq_getElem?_getD,ay];rfl
 have wO:=cF.bB e a';have kv:=V1 f.arg f.path j bB ay ag;have nH:=aE.bo;refine ae.l9 I (kC cJ (bs f.arg (f.path.take j)) S mb pre e post e.b (S e.sp) e.on e.bB) (aH.ih (Perm.cons _ (Dv S mb pre e post))) (fun aE=>?_);revert aE
 repeat clear I
 intro I;unfold kC kA at I ⊢;refine cI I ?_;intro I;refine aa.b3 rfl rfl rfl rfl rfl (VY e.bB (S e.sp).bo bB wO ag) I (aH.js (aH.all _)).there.there.there ?_ (fun _ _ ⟨h,_⟩ _=>by cases h);rintro _ _ ⟨⟨⟩,rfl⟩ I;refine aa.l9 I (kC cJ (bs f.arg (f.path.take j)) S mb pre e post e.b (S e.sp) e.on e.bB) (aH.ih ((perm_middle (l₁:=jH e.bB (S e.sp).bo)).trans (.cons _ ((perm_middle (l₁:=jH e.bB (S e.sp).bo)).trans (.cons _ ((perm_middle (l₁:=jH e.bB (S e.sp).bo)).trans (.refl _))))))) (fun aE=>?_);revert aE
 repeat clear I
 intro I;refine aa.run ai C (aa.nil ?_);refine b5 ?_;refine ae.xM (σ:=qP) (fun _=>[(0,h1 w mb),(3,.bw (pH (f,neg)) 0),(4,.ptr cJ 0),(5,.ptr e.b 0),(7,.int .i64 bB),(29,.aA 1 (f.path.map fun i => .int .i64 i) .bb),(30,.int .i64 ((f.path.map fun i=>af.int .i64 i).length:Int)),(31,.int .i64 (j:Int))]) (fun qU=>kC cJ (bs f.arg (f.path.take j)) S mb pre e post e.b ((S e.sp).slot bB) e.on qU) (fun qU=>rP qU (mQ bB (S e.sp).bo)) ?_ ?_
 ·cases aC:(S e.sp).bo.contains bB with
  | true=>
   have aQ:mQ bB (S e.sp).bo=(S e.sp).bo:=by unfold mQ;rw [if_pos aC]
   unfold kC dk.slot at *;rw [aQ];refine jE ?_;exact lJ.mk e.bB I wO (cq C) (by simp only [aQ];exact aH.all _)
  | false=>
   have aQ:mQ bB (S e.sp).bo=((S e.sp).bo++[bB]).mergeSort (fun a b=>decide (a≤b)):=by unfold mQ;rw [if_neg (by rw [aC];simp)]
   have td:(mQ bB (S e.sp).bo).length=(S e.sp).bo.length+1:=by rw [aQ,List.length_mergeSort];simp
   rcases df:e.bB with _|⟨g,cap,ea⟩
   ·have bt:(S e.sp).bo=[]:=by rw [df] at wO;exact wO
    rw [bt] at aQ td;unfold kC kA dk.slot at *;rw [df] at I;rw [bt] at I ⊢;refine cI I ?_;intro I;refine aa.CK ai I C C C C C C C en C C C C C C C (by show 1*8≤_;omega) (fun aW cd cs' U ad al I=>?_)
    obtain ⟨ea,rfl⟩:∃ ea,cs'=[bB].map ba++ea:=⟨cs'.drop 1,by
     have:=take_append_drop 1 cs'
     rw [al] at this
     exact this.symm⟩
    refine cI I ?_;intro I;refine aa.b3 rfl rfl rfl rfl rfl (G1 aW cd [bB] ea a') I (.cons aY .nil) ?_ (fun _ _ ⟨h,_⟩ _=>by cases h);rintro _ _ ⟨⟨⟩,rfl⟩ I;refine fH ?_;exact lJ.mk (some (aW,cd,ea)) I (by show (mQ bB []).length+ea.length=cd;rw [td];simp at U ⊢;omega) (cq C) (by simp only [kV,jH,td];rw [aQ];exact Dn)
   ·rw [df] at wO
    have wO:(S e.sp).bo.length+ea.length=cap:=wO;unfold kC kA dk.slot at *;rw [df] at I;simp only [jH,cons_append,nil_append] at I ⊢;refine cI I ?_;intro I;refine aa.CL ai I C C C C C C C en C C C C aY cG ag GZ C C C (by show _*8≤_;omega) ag (fun aW cd cs' U ad al I=>?_)
    obtain ⟨mS,rfl⟩:∃ mS,cs'=((S e.sp).bo++[bB]).map ba++mS:=⟨cs'.drop ((S e.sp).bo.length+1),by
     have:=take_append_drop ((S e.sp).bo.length+1) cs'
     rw [take_left' a'] at al
     rw [al] at this
     rw [map_append]
     exact this.symm⟩
    refine cI I ?_;intro I;have MI:=G1 aW cd ((S e.sp).bo++[bB]) mS cG;rw [length_append,List.length_singleton] at MI;refine aa.b3 rfl rfl rfl rfl rfl MI I (.cons aY .nil) ?_ (fun _ _ ⟨h,_⟩ _=>by cases h);rintro _ _ ⟨⟨⟩,rfl⟩ I;refine fH ?_;exact lJ.mk (some (aW,cd,mS)) I (by show (mQ bB _).length+mS.length=cd;rw [td];simp at U ⊢;omega) (cq C) (by simp only [kV,jH,td];rw [aQ];exact Dn)
 rintro qU wG I;have je:=cF.hP (e':=⟨e.sp,e.b,e.on,qU⟩) C (Nat.le_succ (n+j)) (aE.slot bB) wG;have Hm:=Ml w mb _ _ _ je f.arg ((f.path.take (j+1)).length:Int) ((f.path.take (j+1)).getD 0 0) ((f.path.take (j+1)).getD 1 0);generalize MJ:S.hP e.sp ((S e.sp).slot bB)=rU at Hm je;unfold h1 at Hm;unfold kC kA at I ⊢;unfold h1;unfold iD at kv;refine cI I ?_;intro I;refine aa.l9 I (((bL.own cJ,dC.box 319 ((bs f.arg (f.path.take (j+1))).map (af.int .i64))):bL×dC)::lS rU mb (pre++⟨e.sp,e.b,e.on,qU⟩::post)) (aH.ih (by rw [← MJ];exact Dw (mb:=mb) (bS:=cJ) (sp:=bs f.arg (f.path.take (j+1))) cF ((S e.sp).slot bB) e.on qU)) (fun aE=>?_);revert aE
 repeat clear I
 intro I;refine aa.b3 rfl rfl rfl rfl rfl Hm I (aH.all _).there ?_ (fun _ _ ⟨_,_,_,_,h,_⟩ _=>by cases h);rintro _ _ ⟨yk,bY,yl,MK,⟨⟩,rfl,uI⟩ I;refine aa.run ai C (aa.nil ?_);refine b5 ?_;refine ae.l9 I (kC cJ (bs f.arg (f.path.take (j+1))) rU mb yk bY yl bY.b (rU bY.sp) bY.on bY.bB) (aH.ih (MF cJ (bs f.arg (f.path.take (j+1))) rU mb yk bY yl)) (fun aE=>?_);revert aE
 repeat clear I
 intro I;have vL:gS neg f.arg f.path (j+1) σ=rU.hP bY.sp ((rU bY.sp).need neg):=by
  rw [gS]
  try simp only
  rw [ch,j7,← dA,MJ];have:bs f.arg (f.path.take (j+1))=bY.sp:=MK.symm;rw [this]
 have AU:(kC cJ (bs f.arg (f.path.take (j+1))) rU mb yk bY yl bY.b ((rU bY.sp).need neg) bY.on bY.bB).Perm (((bL.own cJ,dC.box 319 ((bs f.arg (f.path.take (j+1))).map (af.int .i64))):bL×dC)::lS (gS neg f.arg f.path (j+1) σ) mb (yk++bY::yl)):=by
  rw [vL];exact Dw (mb:=mb) (bS:=cJ) (sp:=bs f.arg (f.path.take (j+1))) uI ((rU bY.sp).need neg) bY.on bY.bB
 have V9:oW (n+(j+1)) (gS neg f.arg f.path (j+1) σ) (yk++bY::yl):=by
  have:=uI.hP (e':=bY) C (Nat.le_refl _) ((uI.mm bY.sp).need neg) (uI.bB bY a');rw [← vL] at this;exact this
 unfold kC kA dk.need at AU;unfold kC kA at I ⊢;cases eF:(rU bY.sp).gz<;>rw [eF] at I AU<;>cases neg
 all_goals
  refine hh I ?_;intro I;exact bn.mk (j+1,yk,bY,yl) I ⟨au,MK,V9⟩ ca (aH.V0 Dn AU) (by show f.path.length-(j+1)<f.path.length-j;omega)
end Go.Proofs.YtnafpeohfbglmaaGreat
namespace Go.cU
section
variable {P:Program} {Γ:cw} {N:Nat} {env:Env} {s:ao} {ops:Array Oper} {rest:List Oper} {Q:b8→Env→ao→Prop} {L R:a8}
theorem dw.Hn {B:fL} {ro:Option Nat} {a:Act} {w:World} {p:bR} (h:dw N B ro env s a w p) {kb b n cap i:Nat} {T wP:TypeId} {cells cs:List af} (cP:kb≠b) (jY:s kb=some (.box T cells)) (aC:cells[i]? = some (eo b n cap)) (ar:s b=some (.box wP cs)) (cv:cs.length=cap) (az:n≤cap) (hm:n≤9223372036854775807)
  (iu:(cs.take n).all e7=true):∃ bj,dw N B ro env ((s.del b).set kb (.box T (cells.set i (.aA 1 (cs.take n) .bb)))) a w bj∧dc w p w bj∧Kept s ((s.del b).set kb (.box T (cells.set i (.aA 1 (cs.take n) .bb)))) w p w bj:=by
 obtain ⟨vs,U,ad,al⟩:=h.wf.obj _ _ ar;have au:b<w.heap.size:=(Array.getElem?_eq_some_iff.1 U).1;have hle:dc w p w (p.ee b True):=⟨rfl,rfl,rfl,Nat.le_refl _,fun _ _ h => .inl h,fun _ _ _=>rfl,fun _ _ h=>h⟩;have df:∀ v,Rel w p v (eo b n cap)→Rel w (p.ee b True) v (.aA 1 (cs.take n) .bb):=by
  intro v aF;cases aF;have hA:=ad.take n;have vU:=qb hA iu;have kh:=sQ vU;refine .aA b 0 n cap 1 (vs.toList.take n) (cs.take n) .bb a' xk ?_ (hA.mono hle) (fun v av=>by rw [zN (vU v av)];rfl) hm az (fun h=>by cases h) (fun b h=>by cases h);rw [kh];intro i v aQ;refine ⟨.inr ⟨rfl,trivial⟩,?_⟩;rw [zero_add,jB U];rw [getElem?_take] at aQ;split at aQ
  ·simpa using aQ
  ·cases aQ
 have aE:Kept s ((s.del b).set kb (.box T (cells.set i (.aA 1 (cs.take n) .bb)))) w p w (p.ee b True):=⟨fun _ _ _=>rfl,fun aW aq fX=>by
  have bd:aW≠kb:=fun e=>by subst e;rw [jY] at fX;cases fX
  rw [ao.fx _ _ bd]
  by_cases e:aW=b
  ·subst e;exact ao.m6 _ _
  ·rw [ao.mv _ e];exact fX,fun aW o aq fX aD=>by
   rcases aD with aD|⟨rfl,_⟩
   ·exact aD
   ·rw [ar] at fX;cases fX⟩
 have cc:dm w (p.ee b True) ((s.del b).set kb (.box T (cells.set i (.aA 1 (cs.take n) .bb)))):=by
  refine ⟨fun aW o aq=>?_,fun aW o aD=>by rcases aD with aD|⟨rfl,_⟩;exact h.wf.lt _ _ aD;exact au⟩;have e6:aW≠b→∀ o,p.ee b True aW o↔p aW o:=fun e o=>⟨fun aD=>by rcases aD with aD|⟨e',_⟩;exact aD;exact absurd e' e,.inl⟩
  by_cases jA:aW=kb
  ·subst jA
   rw [ao.gk] at aq;cases aq;obtain ⟨us,g1,g2,g3⟩:=h.wf.obj _ _ jY;obtain ⟨v,tN,mx⟩:=g2.get aC;have bD:=(g2.mono hle).set i (df v mx);have gj:us.toList.set i v=us.toList:=by
    apply List.ext_getElem?;intro k;rw [List.getElem?_set];split
    ·rename_i e;subst e
     split
     ·rw [tN]
     ·rename_i au;rw [List.getElem?_eq_none ag]
    ·rfl
   rw [gj] at bD;exact ⟨us,g1,bD,fun o aD=>g3 o ((e6 cP o).1 aD)⟩
  rw [ao.fx _ _ jA] at aq;by_cases e:aW=b
  ·subst e;rw [ao.m6] at aq;cases aq
  ·rw [ao.mv _ e] at aq
   have ah:=h.wf.obj aW o aq;have e6:=e6 e;cases o with
   | box t c=>obtain ⟨us,g1,g2,g3⟩:=ah;exact ⟨us,g1,g2.mono hle,fun o aD=>g3 o ((e6 o).1 aD)⟩
   | row t sz n=>obtain ⟨cur,g1,g2,g3,g4⟩:=ah;exact ⟨cur,g1,g2,g3,fun o=>(e6 o).trans (g4 o)⟩
   | map es=>obtain ⟨cN,c,g1,g2,g3⟩:=ah;exact ⟨cN,c,g1,⟨g2.1.mono hle,g2.2.mono hle⟩,g3⟩
   | k3 es it l c=>exact ah.p7 hle C C
   | tick m=>exact ah
   | loop r env=>exact ⟨ah.1,fun t v h=>(ah.2 t v h).mono hle⟩
 exact ⟨_,h.step hle aE cc,hle,aE⟩
theorem ML {kb b:Nat} {o o' o'':dC} {dt:a8} (I:Ok s L) (U:bp L (.own kb) o R) (ad:bp R (.own b) o' dt):kb≠b∧aT s L kb=some o∧aT s L b=some o'∧((aT s L).del b).set kb o''=aT s ((.own kb,o'')::dt)∧Ok s ((.own kb,o'')::dt):=by
 obtain ⟨cg,cD⟩:=U.perm I;have MM:gone (aT s R) (.own kb)∧Ok s R:=cD;obtain ⟨bY,dh⟩:=ad.perm MM.2;have MN:gone (aT s dt) (.own b)∧Ok s dt:=dh;have eR:aT s L=((aT s dt).set b o').set kb o:=by rw [cg];show lI (aT s R) (.own kb) o=_;rw [bY];rfl
 have jY:aT s R kb=none:=MM.1;rw [bY] at jY;have Dx:((aT s dt).set b o') kb=none:=jY;have cP:kb≠b:=fun e=>by subst e;rw [ao.gk] at Dx;cases Dx
 rw [ao.fx _ _ cP] at Dx;have aq:aT s dt b=none:=MN.1;refine ⟨cP,U.get I,?_,?_,Dx,MN.2⟩
 ·rw [eR,ao.fx _ _ (fun e=>cP e.symm),ao.gk]
 ·funext x
  show ((aT s L).del b).set kb o'' x=((aT s dt).set kb o'') x;by_cases ab:x=kb
  ·subst ab;rw [ao.gk,ao.gk]
  ·rw [ao.fx _ _ ab,ao.fx _ _ ab]
   by_cases Ho:x=b
   ·subst Ho;rw [ao.m6,aq]
   ·rw [ao.mv _ Ho,eR,ao.fx _ _ ab,ao.fx _ _ Ho]
theorem ae.Hn {c:Code} (I:Ok s L) {kb b n cap:Nat} (i:Nat) {T wP:TypeId} {cells cs:List af} {dt:a8} (U:bp L (.own kb) (.box T cells) R) (ad:bp R (.own b) (.box wP cs) dt) (aC:cells[i]? = some (eo b n cap)) (cv:cs.length=cap) (az:n≤cap) (hm:n≤9223372036854775807) (iu:(cs.take n).all e7=true)
  (h:Ok s ((.own kb,.box T (cells.set i (.aA 1 (cs.take n) .bb)))::dt)→ae P N c Q env (aT s ((.own kb,.box T (cells.set i (.aA 1 (cs.take n) .bb)))::dt))):ae P N c Q env (aT s L):=by
 obtain ⟨g1,g2,g3,g4,g5⟩:=ML (o'' := .box T (cells.set i (.aA 1 (cs.take n) .bb))) I U ad;intro sT B a w p eU aI;obtain ⟨bj,al,bd,bD⟩:=aI.Hn g1 g2 aC g3 cv az hm iu;rw [g4] at al bD;exact l0 (h g5 sT B a w bj eU al) fun _ _ _ q=>q.after bd bD
end
end Go.cU
namespace Go.Proofs.YtnafpeohfbglmaaGreat
open Go.cU Go.eb
abbrev kY:=List Int×Nat
def ia (σ:dT) (e:kY):bL×dC:=(.own e.2,.box 340 (kA (σ e.1) (.aA 1 ((σ e.1).eX.map ba) .bb) (.aA 1 ((σ e.1).bo.map ba) .bb)))
def n7 (es:List kY):SMap:=es.map fun e=>(e.1,.ptr e.2 0)
def mn (σ:dT) (mb:Nat) (es:List kY):a8:=qO mb (n7 es)::es.map (ia σ)
theorem ae.MO {P:Program} {N:Nat} {Q:b8→Env→ao→Prop} {env:Env} {s:ao} {c:Code} (σ:dT):∀ (es:List fQ) (A:a8),(∀ e∈es,rP e.bB (σ e.sp).bo∧(σ e.sp).bo.length<bz)→Ok s (A++es.flatMap (iE σ)) →
    (Ok s (A++es.map fun e=>ia σ (e.sp,e.b))→ae P N c Q env (aT s (A++es.map fun e=>ia σ (e.sp,e.b))))→ae P N c Q env (aT s (A++es.flatMap (iE σ)))
  | [],A,_,I,h=>h I
  | e::es,A,ar,I,h=>by
    have aq:=bA;obtain ⟨kN,kK⟩:=ar e mem_cons_self;have V':Ok s ((A++[ia σ (e.sp,e.b)])++es.flatMap (iE σ))→ae P N c Q env (aT s ((A++[ia σ (e.sp,e.b)])++es.flatMap (iE σ))):=fun I=>by
      refine ae.MO σ es (A++[ia σ (e.sp,e.b)]) (fun x ab=>ar x (mem_cons_of_mem _ ab)) I ?_;intro I;rw [append_assoc] at I ⊢;exact h I
    have lP:Ok s (ia σ (e.sp,e.b)::(A++es.flatMap (iE σ)))→ae P N c Q env (aT s (ia σ (e.sp,e.b)::(A++es.flatMap (iE σ)))):=fun I=>by
      refine ae.l9 I ((A++[ia σ (e.sp,e.b)])++es.flatMap (iE σ)) (aH.ih ?_) V';rw [append_assoc];exact (perm_middle (l₁:=A)).symm
    rw [flatMap_cons] at I ⊢;refine ae.l9 I (iE σ e++(A++es.flatMap (iE σ))) (aH.ih (List.perm_append_comm_assoc _ _ _)) (fun aE=>?_);clear I;have pN:cR (kA (σ e.sp) (.aA 1 ((σ e.sp).eX.map ba) e.on) (.aA 1 ((σ e.sp).bo.map ba) .bb)) (kA (σ e.sp) (.aA 1 ((σ e.sp).eX.map ba) .bb) (.aA 1 ((σ e.sp).bo.map ba) .bb)) := .cons aL (.cons aL (.cons aS.bb (cR.refl _)));unfold iE oV at aE ⊢;rcases df:e.bB with _|⟨g,cap,ea⟩
    · rw [df] at aE kN
      have bt:(σ e.sp).bo=[]:=kN;have Wa:cR (kA (σ e.sp) (.aA 1 ((σ e.sp).eX.map ba) e.on) (kV none (σ e.sp).bo)) (kA (σ e.sp) (.aA 1 ((σ e.sp).eX.map ba) .bb) (.aA 1 ((σ e.sp).bo.map ba) .bb)):=by
        rw [bt];exact .cons aL (.cons aL (.cons aS.bb (.cons aL (.cons aL (.cons aL (.cons aL (.one aS.empty)))))))
      refine ae.vP aE e.b _ .here Wa (fun aE=>?_);refine ae.l9 aE (ia σ (e.sp,e.b)::(A++es.flatMap (iE σ))) (.cons .here (aH.there (e:=(e.on,.row 3 1 (σ e.sp).eX.length)) (aH.all (A++es.flatMap (iE σ))))) lP
    · rw [df] at aE kN
      have kl:(σ e.sp).bo.length+ea.length=cap:=kN;refine ae.Hn aE 7 .here (.there .here) C cG ag ag GZ (fun aE=>?_);rw [take_left' a'] at aE ⊢;refine ae.vP aE e.b _ .here pN (fun aE=>?_);refine ae.l9 aE (ia σ (e.sp,e.b)::(A++es.flatMap (iE σ))) (.cons .here (aH.there (e:=(e.on,.row 3 1 (σ e.sp).eX.length)) (aH.all (A++es.flatMap (iE σ))))) lP
structure wQ (n:Nat) (E:List kY) (σ:dT) (es:List kY):Prop where
 four:∀ e∈es,e.1.length=4
 rest:∀ q,q∉es.map Prod.fst→σ q=iT
 mm:∀ q,ml n (σ q)
 sM:∀ x∈E,x∈es
def Wb (n:Nat) (σ:dT) (mb:Nat) (v:af) (o:ey) (K:a8):Prop:=o = .ret v∧∃ es,K=mn σ mb es∧wQ n [] σ es
theorem Wc (w:bx) (hw:w.ps.length≤60) (l:List cf) (aB:3*l.length+3<bz) (ab:∀ x∈l,tb w x) :
  bE Tryz.prog 248 [gg w,pQ l] [] (fun o K=>∃ mb,Wb (3*l.length) (et l) mb (h1 w mb) o K):=by
 have aq:=bA;refine bE.bh ai Tryz.func248 C C fun s I=>?_
 unfold gg e4;refine dv ?_;refine aa.rn I C C C C (fun mb I=>?_);refine bC ?_;refine ae.b4 [5,12,13] C I (σ:=Nat×List fQ) (fun q=>[(14,.int .i64 (q.1:Int))]) (fun q=>lS (et (l.take q.1)) mb q.2) (fun q=>q.1≤l.length∧oW (3*q.1) (et (l.take q.1)) q.2) (fun q=>l.length-q.1) (0,[]) ⟨zero_le _,⟨by simp,by simp,fun q _=>rfl,by simp,fun q=>VC _⟩⟩ (cq C) (aH.all _) ?_;rintro ⟨j,es⟩ ⟨aK,cF⟩ I;simp only at aK cF I ⊢;refine b7 ?_;refine ae.cond C (fun au=>?_) (fun aV=>?_);rotate_left
 ·have aV:j=l.length:=by simp at aV;omega
  subst aV;rw [take_length] at cF I ⊢;refine ae.MO (et l) es [qO mb (mR es)] (fun e he=>⟨cF.bB e he,by have:=(cF.mm e.sp).bo;omega⟩) I (fun I=>?_);refine dN ?_;refine Fin.bu I C aL (aH.all _) ⟨mb,rfl,es.map (fun e=>(e.sp,e.b)),?_,?_,?_,cF.mm,by simp⟩
  ·unfold mn n7 mR
   simp [List.map_map,Function.comp_def]
  ·intro e he
   obtain ⟨x,ab,rfl⟩:=mem_map.1 he;exact cF.four x ab
  ·intro q bq
   refine cF.rest q (fun hm=>bq ?_);obtain ⟨x,ab,rfl⟩:=mem_map.1 hm;exact mem_map.2 ⟨(x.sp,x.b),mem_map.2 ⟨x,ab,rfl⟩,rfl⟩
 have au:j<l.length:=by simpa using au
 obtain ⟨x,ay,da⟩:=b1 (f:=hZ) au;have ar:et (l.take (j+1))=addLit (et (l.take j)) x:=by
  unfold et;rw [iA ay,List.foldl_append];rfl
 have a7:=V7 w hw mb _ _ es cF ag x (ab x (mem_of_getElem? ay));unfold h1 gg e4 at a7;unfold hZ pH ak.cells at da a7
 repeat (first|(refine CE I ?_;clear I;intro I)|refine aa.dY ai I rfl rfl rfl rfl rfl rfl rfl (fun cJ I=>?_))
 refine aa.b3 rfl rfl rfl rfl rfl a7 I (aH.all _).there ?_ (fun _ _ ⟨h,_⟩ _=>by cases h);rintro _ _ ⟨⟨⟩,du,rfl,je⟩ I;refine fG ?_;refine bn.mk (j+1,du) I ⟨au,?_⟩ ca (by show aH _ (lS (et (l.take (j+1))) mb du) _;rw [ar];exact aH.js (aH.all _)) mO;rw [ar];exact je
theorem Wd {es:List kY} {sp:List Int}:(n7 es).find? (fun e=>e.1==sp)=none↔sp∉es.map Prod.fst:=by
 unfold n7;rw [List.find?_eq_none];constructor
 ·intro h hm
  obtain ⟨e,he,rfl⟩:=mem_map.1 hm;have:=h _ (mem_map.2 ⟨e,he,rfl⟩);simp at this
 ·intro h x ab
  obtain ⟨e,he,rfl⟩:=mem_map.1 ab;simp only [beq_iff_eq];intro bY;exact h (mem_map.2 ⟨e,he,bY⟩)
theorem We {es:List kY} {sp:List Int} {x:List Int×af} (h:(n7 es).find? (fun e=>e.1==sp)=some x):∃ e∈es,e.1=sp∧x=(e.1,.ptr e.2 0):=by
 unfold n7 at h;have U:=List.mem_of_find?_eq_some h;have ad:=List.find?_some h;obtain ⟨e,he,rfl⟩:=mem_map.1 U;exact ⟨e,he,by simpa using ad,rfl⟩
theorem wR (w:bx) (mb n:Nat) (σ:dT) (es:List kY) {E:List kY} (cF:wQ n E σ es) (hE ef di dL:Int) :
  bE Tryz.prog 280 [h1 w mb,iD [hE,ef,di,dL]] (mn σ mb es) (fun o K=>∃ b R,o = .ret (.ptr b 0)∧(∃ du,(ia σ ([hE,ef,di,dL],b)::R).Perm (mn σ mb du)∧wQ n E σ du∧([hE,ef,di,dL],b)∈du)∧K=ia σ ([hE,ef,di,dL],b)::R):=by
 have h:=Mf (.aA 1 [] .bb) (.aA 1 [] .bb) aS.empty aS.empty w mb (n7 es) (fun e he=>by
  unfold n7 at he
  obtain ⟨x,ab,rfl⟩:=mem_map.1 he
  exact cF.four x ab) hE ef di dL
 refine bE.frame h (R:=es.map (ia σ)) (.cons .here .nil) ?_;rintro o aO (⟨x,ab,rfl,rfl⟩|⟨a6,b,rfl,rfl⟩)
 ·obtain ⟨⟨sp,b⟩,he,U,rfl⟩:=We ab
  simp only at U;subst U;obtain ⟨pre,post,rfl⟩:=append_of_mem he;have aD:((qO mb (n7 (pre++([hE,ef,di,dL],b)::post)))::(pre++([hE,ef,di,dL],b)::post).map (ia σ)).Perm (ia σ ([hE,ef,di,dL],b)::(qO mb (n7 (pre++([hE,ef,di,dL],b)::post))::(pre.map (ia σ)++post.map (ia σ)))):=by
   rw [map_append,List.map_cons];exact ((perm_middle).cons _).trans (Perm.swap _ _ _)
  exact ⟨[],_,by simp,aD,b,_,rfl,⟨_,aD.symm,cF,by simp⟩,rfl⟩
 ·have lu:=Wd.1 a6
  have Aw:=cF.rest _ lu;have cg:ia σ ([hE,ef,di,dL],b)=(.own b,.box 340 (kA iT (.aA 1 [] .bb) (.aA 1 [] .bb))):=by
   unfold ia;simp only [Aw];rfl
  refine ⟨[],ia σ ([hE,ef,di,dL],b)::(qO mb (n7 (es++[([hE,ef,di,dL],b)]))::es.map (ia σ)),by simp,?_,b,_,rfl,⟨es++[([hE,ef,di,dL],b)],?_,?_,by simp⟩,rfl⟩
  ·rw [cg]
   have bY:n7 (es++[([hE,ef,di,dL],b)])=n7 es++[([hE,ef,di,dL],.ptr b 0)]:=by unfold n7;rw [map_append];rfl
   rw [bY];exact Perm.swap _ _ _
  ·unfold mn
   rw [map_append];refine (Perm.swap _ _ _).trans (Perm.cons _ ?_);exact List.perm_append_comm (l₁:=[ia σ ([hE,ef,di,dL],b)])
  ·refine ⟨fun e he=>?_,fun q bq=>cF.rest q (fun hm=>bq (by rw [map_append];exact mem_append_left _ hm)),cF.mm,fun x ab=>mem_append_left _ (cF.sM x ab)⟩
   rcases mem_append.1 he with he|he
   ·exact cF.four e he
   ·rw [mem_singleton] at he;subst he;rfl
theorem Wf (fv:af) (q:Int→Bool) (acg:a8→Prop) (xs:List Int) (aB:xs.length<bz) (h:∀ x∈xs,∀ K,acg K→dp Tryz.prog fv [ba x] K (fun o aO=>o = .ret (.bool (q x))∧acg aO)) (K:a8) (an:acg K) :
  bE Tryz.prog 90 [.aA 1 (xs.map ba) .bb,fv] K (fun o aO=>o = .ret (.int .i64 (match xs.findIdx? q with|some i=>(i:Int)|none => -1))∧acg aO):=by
 have aq:=bA;refine bE.bh ai Tryz.func90 C C fun s I=>?_
 refine gm ?_;refine ae.b4 [0,1,7] C I (σ:=Nat×a8) (fun j=>[(8,.int .i64 (j.1:Int))]) (fun j=>j.2) (fun j=>j.1≤xs.length∧acg j.2∧∀ i y,i<j.1→xs[i]? = some y→q y=false) (fun j=>xs.length-j.1) (0,K) ⟨zero_le _,an,fun i y aQ=>absurd aQ (not_lt_zero _)⟩ (cq C) (aH.all _) ?_;rintro ⟨j,AV⟩ ⟨aK,Hp,cy⟩ I;simp only at aK Hp cy I ⊢;refine b7 ?_;refine ae.cond C (fun au=>?_) (fun aV=>?_)
 ·have au:j<xs.length:=by simpa using au
  obtain ⟨x,ab,bJ⟩:=b1 (f:=ba) au;have av:=h x (mem_of_getElem? ab) AV Hp;unfold ba at bJ av;refine bC ?_;refine aa.gH rfl rfl rfl rfl rfl rfl av I (aH.all _) ?_ (fun _ _ ⟨h,_⟩ _=>by cases h);rintro _ iF ⟨⟨⟩,kz⟩ I;rw [append_nil] at I ⊢;cases bq:q x with
  | true=>
   rw [K0 q xs j x ab bq cy];refine e1 ?_;exact Fin.bu I C aL (aH.all _) ⟨rfl,kz⟩
  | false=>
   refine bC ?_
   exact bn.mk (j+1,iF) I ⟨au,kz,fun i y aQ ay=>by
    rcases Nat.lt_succ_iff_lt_or_eq.1 aQ with aQ|rfl
    ·exact cy i y aQ ay
    ·rw [ab] at ay;cases ay;exact bq⟩ ca (aH.all _) ru
 ·have aV:j=xs.length:=by simp at aV;omega
  subst aV;rw [K1 q xs (fun i y ay=>cy i y (qB ay) ay)];refine dN ?_;exact Fin.bu I C aL (aH.all _) ⟨rfl,Hp⟩
theorem Wg {α:Type} (q:α→Bool) (l:List α):decide ((match l.findIdx? q with|some i=>(i:Int)|none => -1)≥0)=l.any q:=by
 cases h:l.findIdx? q with
 | none=>
  rw [findIdx?_eq_none_iff] at h;have:l.any q=false:=by rw [List.any_eq_false];intro x ab;rw [h x ab];simp
  rw [this];rfl
 | some i=>
  rw [List.findIdx?_eq_some_iff_getElem] at h;obtain ⟨aQ,U,_⟩:=h;have:l.any q=true:=List.any_eq_true.2 ⟨_,getElem_mem aQ,U⟩;rw [this];simp
theorem Wh (fv:af) (q:Int→Bool) (acg:a8→Prop) (xs:List Int) (aB:xs.length<bz) (h:∀ x∈xs,∀ K,acg K→dp Tryz.prog fv [ba x] K (fun o aO=>o = .ret (.bool (q x))∧acg aO)) (K:a8) (an:acg K) :
  bE Tryz.prog 40 [.aA 1 (xs.map ba) .bb,fv] K (fun o aO=>o = .ret (.bool (xs.any q))∧acg aO):=by
 rw [← Wg];have aC:=Wf fv q acg xs aB h K an;refine bE.bh ai Tryz.func40 C C fun s I=>?_
 refine dv ?_;refine aa.b3 rfl rfl rfl rfl rfl aC I (aH.all _) ?_ (fun _ _ ⟨h,_⟩ _=>by cases h);rintro _ iF ⟨⟨⟩,kz⟩ I;rw [append_nil] at I ⊢;refine eu ?_;exact Fin.bu I C aL (aH.all _) ⟨rfl,kz⟩
theorem Wi (f:FuncId) (ig ho:List af) (q:Int→Bool) (acg:a8→Prop) (xs:List Int) (aB:xs.length<bz) (h:∀ x∈xs,∀ K,acg K→dp Tryz.prog (.func f ig ho) [ba x] K (fun o aO=>o = .ret (.bool (q x))∧acg aO)) (K:a8) (an:acg K) :
  bE Tryz.prog 198 [.aA 1 (xs.map ba) .bb,.func f ig ho] K (fun o aO=>o = .ret (.bool (xs.all q))∧acg aO):=by
 have U:∀ x∈xs,∀ K,acg K→dp Tryz.prog (.func 233 [] [.bw [.func f ig ho] 0]) [ba x] K (fun o aO=>o = .ret (.bool (!q x))∧acg aO):=fun x ab K bg=>by
  refine dp.fk (first:=[]) (cap:=[.bw [.func f ig ho] 0]) ?_;refine bE.bh ai Tryz.func233 C C fun s I=>?_
  have av:=h x ab K bg;unfold ba at av ⊢;refine dv ?_;refine aa.gH rfl rfl rfl rfl rfl rfl av I (aH.all _) ?_ (fun _ _ ⟨h,_⟩ _=>by cases h);rintro _ iF ⟨⟨⟩,kz⟩ I;rw [append_nil] at I ⊢;refine eu ?_;exact Fin.bu I C aL (aH.all _) ⟨rfl,kz⟩
 rw [← An];have aC:=Wh _ (fun x => !q x) acg xs aB U K an;refine bE.bh ai Tryz.func198 C C fun s I=>?_
 refine dv ?_;refine aa.b3 rfl rfl rfl rfl rfl aC I (aH.all _) ?_ (fun _ _ ⟨h,_⟩ _=>by cases h);rintro _ iF ⟨⟨⟩,kz⟩ I;rw [append_nil] at I ⊢;refine eu ?_;exact Fin.bu I C aL (aH.all _) ⟨rfl,kz⟩
theorem MP (arg:Int) (path:List Int) (bB:Int) (h:path.length<2):aR Tryz.prog 281 [iD (bs arg path),.int .i64 bB] (iD (bs arg (path++[bB]))):=by
 match path,h with
 | [],_=>exact Mg arg 0 0 bB
 | [a],_=>exact Mh arg a 0 bB
structure uJ (n:Nat) (σ:dT):Prop where
 deep:∀ arg path,2≤path.length→(σ (bs arg path)).bo=[]
 mm:∀ q,ml n (σ q)
def lT (n:Nat) (E:List kY) (σ:dT) (mb:Nat) (K:a8):Prop:=∃ es,K=mn σ mb es∧wQ n E σ es
def AW (σ:dT) (arg:Int) (path:List Int):Bool:=(σ (bs arg path)).bo.all fun s => !(σ (bs arg (path++[s]))).gz
theorem Wj (w:bx) (mb n:Nat) (σ:dT) (arg:Int) (path:List Int) (aD:path.length<2) (bB:Int) {E:List kY} (K:a8) (bg:lT n E σ mb K) :
  dp Tryz.prog (.func 315 [] [.bw [h1 w mb] 0,.bw ((bs arg path).map (af.int .i64)) 0]) [ba bB] K (fun o aO=>o = .ret (.bool (!(σ (bs arg (path++[bB]))).gz))∧lT n E σ mb aO):=by
 obtain ⟨es,rfl,cF⟩:=bg;have U:=MP arg path bB aD;have ad:=wR w mb n σ es cF arg ((path++[bB]).length:Int) ((path++[bB]).getD 0 0) ((path++[bB]).getD 1 0);refine dp.fk (first:=[]) (cap:=[.bw [h1 w mb] 0,.bw ((bs arg path).map (af.int .i64)) 0]) ?_;refine bE.bh ai Tryz.func315 C C fun s I=>?_
 unfold h1 at *;unfold iD kf at U;refine oF ?_;refine aN.ky rfl rfl rfl rfl rfl rfl ad I (aH.all _) ?_ (fun _ _ ⟨_,_,h,_⟩ _=>by cases h);rintro _ _ ⟨b,R,⟨⟩,⟨du,e6,je,fW⟩,rfl⟩ I;rw [append_nil] at I ⊢;refine cI I ?_;intro I;exact Fin.bu I C aL (aH.ih e6) ⟨rfl,du,rfl,je⟩
theorem Wk (w:bx) (mb n:Nat) (az:n<bz) (σ:dT) (ch:uJ n σ) (arg:Int) (path:List Int) (aD:path.length≤2) {E:List kY} (K:a8) (bg:lT n E σ mb K) :
    bE Tryz.prog 305 [h1 w mb,iD (bs arg path)] K (fun o aO=>o = .ret (.bool (AW σ arg path))∧lT n E σ mb aO):=by
  obtain ⟨es,rfl,cF⟩:=bg;have ad:=wR w mb n σ es cF arg (path.length:Int) (path.getD 0 0) (path.getD 1 0);have k7:=(ch.mm (bs arg path)).bo
  have al:=Wi 315 [] [.bw [h1 w mb] 0,.bw ((bs arg path).map (af.int .i64)) 0] (fun s => !(σ (bs arg (path++[s]))).gz) (lT n E σ mb) (σ (bs arg path)).bo ag (fun x ab K bg=>by
    have h4:path.length<2:=by
      rcases Nat.lt_or_ge path.length 2 with h|h
      · exact h
      · rw [ch.deep arg path h] at ab;cases ab
    exact Wj w mb n σ arg path h4 x K bg)
  refine bE.bh ai Tryz.func305 C C fun s I=>?_
  unfold h1 at *;unfold iD kf at *;refine dv ?_;refine aa.b3 rfl rfl rfl rfl rfl ad I (aH.all _) ?_ (fun _ _ ⟨_,_,h,_⟩ _=>by cases h);rintro _ _ ⟨b,R,⟨⟩,⟨du,e6,je,fW⟩,rfl⟩ I;rw [append_nil] at I ⊢;unfold ia at I ⊢;refine cI I ?_;intro I;refine aa.l9 I (mn σ mb du) (aH.ih e6) (fun I=>?_);refine aa.b3 rfl rfl rfl rfl rfl (al _ ⟨du,rfl,je⟩) I (aH.all _) ?_ (fun _ _ ⟨h,_⟩ _=>by cases h);rintro _ iF ⟨⟨⟩,n8⟩ I;rw [append_nil] at I ⊢;refine eu ?_;exact Fin.bu I C aL (aH.all _) ⟨rfl,n8⟩
def uK (σ:dT) (arg:Int) (path:List Int) (c:Nat):Bool:=
 decide (kO (σ (bs arg path)).fP (1|||2^c)=0)&&(decide ((σ (bs arg path)).no &&& (1|||2^c)=0)&&AW σ arg path)
theorem AX (m:Nat):(((m:Nat):Int)==0)=decide (m=0):=by
 rw [Bool.eq_iff_iff,beq_iff_eq,decide_eq_true_eq];omega
theorem MQ (w:bx) (mb n:Nat) (az:n<bz) (σ:dT) (ch:uJ n σ) (arg:Int) (path:List Int) (aD:path.length≤2) (c:Nat) (aC:c<3) {E:List kY} (K:a8) (bg:lT n E σ mb K) :
  bE Tryz.prog 291 [h1 w mb,iD (bs arg path),.int .i64 (c:Int)] K (fun o aO=>o = .ret (.bool (uK σ arg path c))∧lT n E σ mb aO):=by
 obtain ⟨es,rfl,cF⟩:=bg;have ad:=wR w mb n σ es cF arg (path.length:Int) (path.getD 0 0) (path.getD 1 0);have k7:=ch.mm (bs arg path);have U:=GC c ag;have km:1|||2^c<2^64:=or_lt_two_pow dZ (Nat.pow_lt_pow_right ag ag)
 have al:=fun K bg=>Wk (E:=E) w mb n az σ ch arg path aD K bg
 have hm:uK σ arg path c=(decide (kO (σ (bs arg path)).fP (1|||2^c)=0)&&(decide ((σ (bs arg path)).no &&& (1|||2^c)=0)&&AW σ arg path)):=rfl;refine bE.bh ai Tryz.func291 C C fun s I=>?_
 unfold h1 at *;unfold iD kf at *;refine dv ?_;refine aa.b3 rfl rfl rfl rfl rfl ad I (aH.all _) ?_ (fun _ _ ⟨_,_,h,_⟩ _=>by cases h);rintro _ _ ⟨b,R,⟨⟩,⟨du,e6,je,fW⟩,rfl⟩ I;rw [append_nil] at I ⊢;unfold ia at I ⊢;refine cI I ?_;intro I;refine aa.bits ((kO (σ (bs arg path)).fP (1|||2^c):Nat):Int) C C C C C C (CQ k7.fP km) ?_;refine dy ?_;cases pO:decide (kO (σ (bs arg path)).fP (1|||2^c)=0) with
 | false=>
  refine aa.cY 21 C (by rw [AX];exact pO) ?_;refine eh ?_;rw [pO,Bool.false_and] at hm;exact Fin.bu I C aL (aH.ih e6) ⟨by rw [hm],du,rfl,je⟩
 | true=>
  refine aa.de 21 C (by rw [AX];exact pO) ?_;refine cI I ?_;intro I;refine aa.bits (((σ (bs arg path)).no &&& (1|||2^c):Nat):Int) C C C C C C (uc k7.no km) ?_;refine dy ?_;cases lb:decide ((σ (bs arg path)).no &&& (1|||2^c)=0) with
  | false=>
   refine aa.cY 30 C (by rw [AX];exact lb) ?_;refine eh ?_;rw [pO,lb,Bool.true_and,Bool.false_and] at hm;exact Fin.bu I C aL (aH.ih e6) ⟨by rw [hm],du,rfl,je⟩
  | true=>
   refine aa.de 30 C (by rw [AX];exact lb) ?_;refine dy ?_;refine aa.l9 I (mn σ mb du) (aH.ih e6) (fun I=>?_);refine aa.b3 rfl rfl rfl rfl rfl (al _ ⟨du,rfl,je⟩) I (aH.all _) ?_ (fun _ _ ⟨h,_⟩ _=>by cases h);rintro _ iF ⟨⟨⟩,n8⟩ I;rw [append_nil] at I ⊢;refine eu ?_;rw [pO,lb,Bool.true_and,Bool.true_and] at hm;exact Fin.bu I C aL (aH.all _) ⟨by rw [hm],n8⟩
def wS (σ:dT) (arg:Int) (path:List Int):Bool := !(σ (bs arg path)).whole&&uK σ arg path 2
theorem Wl (w:bx) (mb n:Nat) (az:n<bz) (σ:dT) (ch:uJ n σ) (arg:Int) (path:List Int) (aD:path.length≤2) {E:List kY} (K:a8) (bg:lT n E σ mb K) :
  bE Tryz.prog 284 [h1 w mb,iD (bs arg path)] K (fun o aO=>o = .ret (.bool (wS σ arg path))∧lT n E σ mb aO):=by
 obtain ⟨es,rfl,cF⟩:=bg;have ad:=wR w mb n σ es cF arg (path.length:Int) (path.getD 0 0) (path.getD 1 0);have al:=fun K bg=>MQ (E:=E) w mb n az σ ch arg path aD 2 ag K bg
 have hm:wS σ arg path=(!(σ (bs arg path)).whole&&uK σ arg path 2):=rfl;refine bE.bh ai Tryz.func284 C C fun s I=>?_
 unfold h1 at *;unfold iD kf at *;refine dv ?_;refine aa.b3 rfl rfl rfl rfl rfl ad I (aH.all _) ?_ (fun _ _ ⟨_,_,h,_⟩ _=>by cases h);rintro _ _ ⟨b,R,⟨⟩,⟨du,e6,je,fW⟩,rfl⟩ I;rw [append_nil] at I ⊢;unfold ia at I ⊢;refine cI I ?_;intro I;cases hw:(σ (bs arg path)).whole with
 | true=>
  refine aa.cY 12 C (by show (!(σ (bs arg path)).whole)=false;rw [hw];rfl) ?_;refine eh ?_;rw [hw] at hm;exact Fin.bu I C aL (aH.ih e6) ⟨by rw [hm];rfl,du,rfl,je⟩
 | false=>
  refine aa.de 12 C (by show (!(σ (bs arg path)).whole)=true;rw [hw];rfl) ?_;refine dy ?_;refine aa.l9 I (mn σ mb du) (aH.ih e6) (fun I=>?_);refine aa.b3 rfl rfl rfl rfl rfl (al _ ⟨du,rfl,je⟩) I (aH.all _) ?_ (fun _ _ ⟨h,_⟩ _=>by cases h);rintro _ iF ⟨⟨⟩,n8⟩ I;rw [append_nil] at I ⊢;refine eu ?_;rw [hw] at hm;exact Fin.bu I C aL (aH.all _) ⟨by rw [hm];rfl,n8⟩
def lU:Nat→Int→List Int→Int
 | 0,n,_=>n
 | k+1,n,l=>if l.contains n then lU k (n+1) l else n
def wT (k:dk):Int:=lU (k.eX.length+1) k.low k.eX
def wU (σ:dT) (arg:Int) (path:List Int):Bool:=decide (wT (σ (bs arg path))≤(σ (bs arg path)).high)&&uK σ arg path 1
def n9 (n:Int) (l:List Int):Nat:=(l.filter fun x=>decide (x≥n)).length
theorem Hq (n:Int) (l:List Int):n9 n l≤l.length:=List.length_filter_le _ _
theorem MR (n:Int):∀ l:List Int,n9 (n+1) l≤n9 n l
  | []=>Nat.le_refl _
  | x::r=>by
    have a1:=MR n r;unfold n9 at *;rw [filter_cons,filter_cons];by_cases U:x≥n+1
    · rw [if_pos sP,if_pos cG,length_cons,length_cons];omega
    · rw [if_neg sP]
      split
      · rw [length_cons];omega
      · exact a1
theorem Dy {n:Int}:∀ {l:List Int},n∈l→n9 (n+1) l<n9 n l
  | x::r,h=>by
    have bt:=MR n r;unfold n9 at *;rw [filter_cons,filter_cons];rcases mem_cons.1 h with rfl|h
    · rw [if_neg cG,if_pos a',length_cons];omega
    · have a1:=Dy h
      unfold n9 at a1;by_cases U:x≥n+1
      · rw [if_pos sP,if_pos cG,length_cons,length_cons];omega
      · rw [if_neg sP]
        split
        · rw [length_cons];omega
        · exact a1
theorem Dz:∀ (f mD:Nat) (n:Int) (l:List Int),n9 n l<f→n9 n l<mD→lU f n l=lU mD n l
  | f+1,mD+1,n,l,h,eT=>by
    rw [lU,lU];cases aC:l.contains n with
    | false=>rfl
    | true=>
      have:=Dy (n:=n) (l:=l) (by simpa using aC);simp only [if_true];exact Dz f mD (n+1) l ag ag
theorem Wm (w:bx) (mb n:Nat) (az:n<bz) (σ:dT) (ch:uJ n σ) (arg:Int) (path:List Int) (aD:path.length≤2) {E:List kY} (K:a8) (bg:lT n E σ mb K) :
  bE Tryz.prog 283 [h1 w mb,iD (bs arg path)] K (fun o aO=>o = .ret (.cp [.int .i64 (wT (σ (bs arg path))),.bool (wU σ arg path)])∧lT n E σ mb aO):=by
 have aq:=bA;obtain ⟨es,rfl,cF⟩:=bg;have ad:=wR w mb n σ es cF arg (path.length:Int) (path.getD 0 0) (path.getD 1 0);have al:=fun K bg=>MQ (E:=E) w mb n az σ ch arg path aD 1 ag K bg
 have hm:wU σ arg path=(decide (wT (σ (bs arg path))≤(σ (bs arg path)).high)&&uK σ arg path 1):=rfl;have k7:=ch.mm (bs arg path);have tQ:=k7.eX;have n3:=k7.num;have Wn:wT (σ (bs arg path))=lU (n9 (σ (bs arg path)).low (σ (bs arg path)).eX+1) (σ (bs arg path)).low (σ (bs arg path)).eX:=Dz _ _ _ _ (by have:=Hq (σ (bs arg path)).low (σ (bs arg path)).eX;omega) ag;have h8:=fun v=>xX (σ (bs arg path)).eX v ag
 refine bE.bh ai Tryz.func283 C C fun s I=>?_
 unfold h1 at *;unfold iD kf at *;refine dv ?_;refine aa.b3 rfl rfl rfl rfl rfl ad I (aH.all _) ?_ (fun _ _ ⟨_,_,h,_⟩ _=>by cases h);rintro _ _ ⟨b,R,⟨⟩,⟨du,e6,je,fW⟩,rfl⟩ I;rw [append_nil] at I ⊢;unfold ia at I ⊢;refine cI I ?_;intro I;refine ae.b4 [0,3,6] C I (σ:=Int) (fun v=>[(7,.int .i64 v)]) (fun _=>ia σ ([arg,(path.length:Int),path.getD 0 0,path.getD 1 0],b)::R) (fun v=>wT (σ (bs arg path))=lU (n9 v (σ (bs arg path)).eX+1) v (σ (bs arg path)).eX∧(σ (bs arg path)).low≤v∧v≤(σ (bs arg path)).low+((σ (bs arg path)).eX.length-n9 v (σ (bs arg path)).eX:Nat)) (fun v=>n9 v (σ (bs arg path)).eX) (σ (bs arg path)).low ⟨Wn,Int.le_refl _,by omega⟩ (cq C) (aH.all _) ?_;rintro v ⟨av,tN,mx⟩ I;unfold ia at I ⊢;have uD:=h8 v;unfold bf at uD;cases aC:(σ (bs arg path)).eX.contains v with
 | true=>
  rw [aC] at uD;have au:=Dy (n:=v) (l:=(σ (bs arg path)).eX) (by simpa using aC);have hle:=Hq v (σ (bs arg path)).eX;rw [lU,aC] at av;simp only [if_true] at av;have dG:IntKind.wrap .i64 (v+1)=v+1:=ek ag ag;refine hh I ?_;intro I;refine bn.mk (v+1) I ⟨?_,by omega,by omega⟩ (by repeat (first|exact trivial|refine ⟨⟨_,rfl,aL⟩,?_⟩|refine ⟨⟨_,rfl,aS.of_eq (by (rw [dG]))⟩,?_⟩)) (aH.all _) au;rw [av];exact Dz _ _ _ _ ag ag
 | false=>
  rw [aC] at uD;rw [lU,aC] at av;simp only [false_eq_true,if_false] at av;subst av;refine cI I ?_;intro I;cases ax:decide (wT (σ (bs arg path))≤(σ (bs arg path)).high) with
  | false=>
   refine aa.cY 33 C ax ?_;refine eh ?_;rw [ax] at hm;exact Fin.bu I C aL (aH.ih e6) ⟨by rw [hm];rfl,du,rfl,je⟩
  | true=>
   refine aa.de 33 C ax ?_;refine dy ?_;refine aa.l9 I (mn σ mb du) (aH.ih e6) (fun I=>?_);refine aa.b3 rfl rfl rfl rfl rfl (al _ ⟨du,rfl,je⟩) I (aH.all _) ?_ (fun _ _ ⟨h,_⟩ _=>by cases h);rintro _ iF ⟨⟨⟩,n8⟩ I;rw [append_nil] at I ⊢;refine eu ?_;rw [ax] at hm;exact Fin.bu I C aL (aH.all _) ⟨by rw [hm];rfl,n8⟩
def jJ (w:bx) (s:Int):Nat:=(w.owner.getD s.toNat 0).toNat
def oZ (w:bx) (σ:dT) (cn:List Int→Bool) (arg:Int) (path:List Int):List Int→Nat→Nat→Option (Nat×Nat)
 | [],m,n=>some (m,n)
 | s::r,m,n=>
  if (σ (bs arg (path++[s]))).gz && !cn (path++[s]) then none
  else if (σ (bs arg (path++[s]))).gz then oZ w σ cn arg path r (m|||2^jJ w s) n
  else if cn (path++[s]) then oZ w σ cn arg path r m n
  else oZ w σ cn arg path r m (n|||2^jJ w s)
def ti (w:bx) (m:Nat) (i:Nat):Nat:=if m.testBit (3+i) then m|||(eN w.ps).getD (3+i) 0 else m
def qV (w:bx) (m:Nat):Nat:=(range w.ps.length).foldl (ti w) m
def wV (w:bx) (σ:dT) (cn:List Int→Bool) (arg:Int) (path:List Int):Nat×Bool:=
 if (σ (bs arg path)).whole||((σ (bs arg path)).fP.testBit 1||((σ (bs arg path)).fP.testBit 2||(σ (bs arg path)).no.testBit 0)) then (0,false)
 else match oZ w σ cn arg path (σ (bs arg path)).bo (σ (bs arg path)).fP (σ (bs arg path)).no with
  | none=>(0,false)
  | some (m,n)=>(kO (qV w m) 1,decide (kO (qV w m) 1 &&& n=0))
theorem bp.AN {o:bL} {dD:dC}:∀ {L:a8},(o,dD)∈L→∃ R,bp L o dD R
  | e::L,h=>by
    rcases mem_cons.1 h with rfl|h
    · exact ⟨_,bp.here⟩
    · obtain ⟨R,h⟩:=bp.AN h
      exact ⟨_,bp.there h⟩
structure DA (w:bx) (σ:dT):Prop where
 slot:∀ q,∀ x∈(σ q).bo,0≤x∧x<(w.owner.length:Int)
def MS (w:bx) (mb n:Nat) (σ:dT) (arg:Int) (cn:List Int→Bool) (path:List Int):Prop:=
 ∀ (E:List kY) (K:a8),lT n E σ mb K→bE Tryz.prog 270 [h1 w mb,iD (bs arg path)] K (fun o aO=>o = .ret (.bool (cn path))∧lT n E σ mb aO)
theorem Wo (w:bx) (hw:gw w) (mb n:Nat) (az:n<bz) (σ:dT) (ch:uJ n σ) (gJ:DA w σ) (arg:Int) (path:List Int) (aD:path.length≤2) (cn:List Int→Bool) (rV:path.length<2→∀ s,MS w mb n σ arg cn (path++[s])) {E:List kY} (K:a8) (bg:lT n E σ mb K) :
  bE Tryz.prog 285 [h1 w mb,iD (bs arg path)] K (fun o aO=>o = .ret (.cp [.int .u64 ((wV w σ cn arg path).1:Int),.bool (wV w σ cn arg path).2])∧lT n E σ mb aO):=by
 have aq:=bA;obtain ⟨es,rfl,cF⟩:=bg;have ad:=wR w mb n σ es cF arg (path.length:Int) (path.getD 0 0) (path.getD 1 0);have k7:=ch.mm (bs arg path);have hm:wV w σ cn arg path=if (σ (bs arg path)).whole||((σ (bs arg path)).fP.testBit 1||((σ (bs arg path)).fP.testBit 2||(σ (bs arg path)).no.testBit 0)) then (0,false)
  else match oZ w σ cn arg path (σ (bs arg path)).bo (σ (bs arg path)).fP (σ (bs arg path)).no with
   | none=>(0,false)
   | some (m,n)=>(kO (qV w m) 1,decide (kO (qV w m) 1 &&& n=0)):=rfl
 have g1:=x5 (σ (bs arg path)).fP 1 k7.fP ag;have g2:=x5 (σ (bs arg path)).fP 2 k7.fP ag;have g0:=x5 (σ (bs arg path)).no 0 k7.no ag;have kv:=fun bB h=>MP arg path bB h
 refine bE.bh ai Tryz.func285 C C fun s I=>?_
 unfold h1 at *;unfold iD kf at *;refine dv ?_;refine aa.b3 rfl rfl rfl rfl rfl ad I (aH.all _) ?_ (fun _ _ ⟨_,_,h,_⟩ _=>by cases h);rintro _ _ ⟨b,R,⟨⟩,⟨du,e6,je,fW⟩,rfl⟩ I;rw [append_nil] at I ⊢;unfold ia at I ⊢;refine sN I ?_;intro I;cases ym:(σ (bs arg path)).whole with
 | true=>
  refine aa.de 30 C ym ?_;refine eh ?_;rw [ym,Bool.true_or,if_pos C] at hm;exact Fin.bu I C aL (aH.ih e6) ⟨by rw [hm];rfl,du,rfl,je⟩
 | false=>
 refine aa.cY 30 C ym ?_;refine c1 ?_;cases qf:(σ (bs arg path)).fP.testBit 1 with
 | true=>
  refine eh ?_;rw [qf,Bool.true_or,Bool.or_true,if_pos C] at hm;exact Fin.bu I C aL (aH.ih e6) ⟨by rw [hm];rfl,du,rfl,je⟩
 | false=>
 refine c1 ?_;cases l8:(σ (bs arg path)).fP.testBit 2 with
 | true=>
  refine eh ?_;rw [l8,Bool.true_or,Bool.or_true,Bool.or_true,if_pos C] at hm;exact Fin.bu I C aL (aH.ih e6) ⟨by rw [hm];rfl,du,rfl,je⟩
 | false=>
 refine c1 ?_;cases xY:(σ (bs arg path)).no.testBit 0 with
 | true=>
  refine eh ?_;rw [xY,Bool.or_true,Bool.or_true,Bool.or_true,if_pos C] at hm;exact Fin.bu I C aL (aH.ih e6) ⟨by rw [hm];rfl,du,rfl,je⟩
 | false=>
 rw [ym,qf,l8,xY] at hm;simp only [Bool.or_self,false_eq_true,if_false] at hm;refine cI I ?_;intro I;have abi:=k7.bo;refine ae.b4 [0,3,45,46] C I (σ:=Nat×Nat×Nat×List kY) (fun q=>[(47,.int .i64 (q.1:Int)),(7,.int .u64 (q.2.1:Int)),(8,.int .u64 (q.2.2.1:Int))]) (fun q=>mn σ mb q.2.2.2)
  (fun q=>q.1≤(σ (bs arg path)).bo.length∧oZ w σ cn arg path (σ (bs arg path)).bo (σ (bs arg path)).fP (σ (bs arg path)).no=oZ w σ cn arg path ((σ (bs arg path)).bo.drop q.1) q.2.1 q.2.2.1∧q.2.1<2^64∧q.2.2.1<2^64∧wQ n E σ q.2.2.2)
  (fun q=>(σ (bs arg path)).bo.length-q.1) (0,(σ (bs arg path)).fP,(σ (bs arg path)).no,du) ⟨zero_le _,by rw [drop_zero],k7.fP,k7.no,je⟩ (cq C) (aH.ih e6) ?_
 rintro ⟨j,m,gN,Hr⟩ ⟨aK,a6,yn,yo,uI⟩ I;simp only at aK a6 yn yo uI I ⊢;refine b7 ?_;refine ae.cond C (fun au=>?_) (fun aV=>?_);rotate_left
 ·have aV:j=(σ (bs arg path)).bo.length:=by
   have:¬ (j<(σ (bs arg path)).bo.length):=by simpa [bs] using aV
   omega
  subst aV;rw [List.drop_length,oZ] at a6;rw [a6] at hm;simp only at hm;refine bC ?_;refine ae.b4 [0,3] C I (σ:=Nat×Nat) (fun q=>[(14,.int .i64 ((3+q.1:Nat):Int)),(7,.int .u64 (q.2:Int)),(8,.int .u64 (gN:Int))]) (fun q=>mn σ mb Hr)
   (fun q=>q.1≤w.ps.length∧q.2=(range q.1).foldl (ti w) m∧q.2<2^64) (fun q=>w.ps.length-q.1) (0,m) ⟨zero_le _,rfl,yn⟩ (cq C) (aH.all _) ?_
  rintro ⟨c,ht⟩ ⟨aC,Hs,eS⟩ I;simp only at aC Hs eS I ⊢;have s9:=hw.kt;have dG:IntKind.wrap .i64 (3+((w.ps.map bf).length:Int))=3+(w.ps.length:Int):=by rw [length_map,ek ag ag]
  refine b7 ?_;refine ae.cond C (fun cz=>?_) (fun dr=>?_);rotate_left
  ·have dr:c=w.ps.length:=by rw [dG] at dr;simp at dr;omega
   subst dr;have rB:qV w m=ht:=Hs.symm;rw [rB] at hm;refine bC ?_;refine aa.bits ((kO ht 1:Nat):Int) C C C C C C (CQ eS dZ) ?_;refine hq ?_;refine aa.bits ((kO ht 1 &&& gN:Nat):Int) C C C C C C (uc (Nat.and_lt_two_pow _ (Nat.xor_lt_two_pow dZ dZ)) yo) ?_;refine eu ?_;exact Fin.bu I C aL (aH.all _) ⟨by rw [hm];simp only [AX],Hr,rfl,uI⟩
  have cz:c<w.ps.length:=by rw [dG] at cz;simp at cz;omega
  have km:=sX w.ps;obtain ⟨u,hu⟩:∃ u,(eN w.ps)[3+c]? = some u:=⟨_,getElem?_eq_getElem ag⟩;have Wp:(eN w.ps).getD (3+c) 0=u:=by rw [getD_eq_getElem?_getD,hu];rfl
  have wk:=xR s9 u (mem_of_getElem? hu);have cX:=x5 ht (3+c) eS ag;have aI:(range (c+1)).foldl (ti w) m=ti w ht c:=by rw [List.range_succ,List.foldl_append,← Hs];rfl
  have iB:ti w ht c=if ht.testBit (3+c) then ht|||u else ht:=by unfold ti;rw [Wp]
  rw [iB] at aI;have aw:=Av (w:=w) (xS hu);have zd:ht|||u<2^64:=or_lt_two_pow eS wk
  cases MT:ht.testBit (3+c) with
  | false=>
   rw [MT] at cX aI;simp only [false_eq_true,if_false] at aI;refine bW ?_;exact bn.mk (c+1,ht) I ⟨cz,aI.symm,eS⟩ Mj (aH.all _) (by show w.ps.length-(c+1)<w.ps.length-c;omega)
  | true=>
   rw [MT] at cX aI;simp only [if_true] at aI;refine c1 ?_;refine aa.lN ai (3+c) C C C C C C C C C C ag ?_;refine aa.Ag ai C C C C C C C (by simpa using aw) ?_;skip;refine aa.bits ((ht|||u:Nat):Int) C C C C C C (vW eS wk) ?_;refine fG ?_;exact bn.mk (c+1,ht|||u) I ⟨cz,aI.symm,zd⟩ Mj (aH.all _) (by show w.ps.length-(c+1)<w.ps.length-c;omega)
 have au:j<(σ (bs arg path)).bo.length:=by simpa [bs] using au
 obtain ⟨bB,ay,da⟩:=b1 (f:=ba) au;have h4:path.length<2:=by
  rcases Nat.lt_or_ge path.length 2 with h|h
  ·exact h
  ·rw [ch.deep arg path h] at au;cases au
 have abj:=gJ.slot _ bB (mem_of_getElem? ay);obtain ⟨k,rfl⟩:∃ k:Nat,bB=(k:Int):=⟨bB.toNat,by omega⟩;have rR:k<w.owner.length:=by omega
 have abk:=hw.own _ (getElem_mem rR);have s9:=hw.kt;have MU:w.owner[k]? = some ((jJ w (k:Int):Nat):Int):=by
  unfold jJ;rw [getElem?_eq_getElem rR,toNat_natCast,getD_eq_getElem?_getD,getElem?_eq_getElem rR];simp only [getD_some];congr 1;omega
 have AY:jJ w (k:Int)<64:=by
  unfold jJ;rw [toNat_natCast,getD_eq_getElem?_getD,getElem?_eq_getElem rR];simp only [getD_some];omega
 have Ht:(w.owner.map ba)[k]? = some (.int .i64 ((jJ w (k:Int):Nat):Int)):=by simp [MU,ba]
 have Wq:=Ap m _ yn AY;have Wr:=Ap gN _ yo AY;have abl:=kv (k:Int) h4;have Ws:=rV h4 (k:Int);have al:=wR w mb n σ Hr uI arg ((path++[(k:Int)]).length:Int) ((path++[(k:Int)]).getD 0 0) ((path++[(k:Int)]).getD 1 0);have jt:(σ (bs arg path)).bo.drop j=(k:Int)::(σ (bs arg path)).bo.drop (j+1):=by
  rw [List.drop_eq_getElem_cons au];rw [getElem?_eq_getElem au] at ay;simp only [Option.some.injEq] at ay;rw [ay]
 rw [jt,oZ] at a6;clear kv rV;generalize jJ w (k:Int)=ln at MU AY Ht Wq Wr a6;refine Sm ?_;intro dE jt cy;refine bc.runs (is:=[0,1,6,7]) C ?_;refine bc.b3 2 rfl rfl rfl rfl rfl rfl rfl al I (aH.all _) ?_ (fun _ _ ⟨_,_,h,_⟩ _=>by cases h);rintro _ _ ⟨dx,acu,⟨⟩,⟨Hu,KV,DB,Wt⟩,rfl⟩ I;rw [append_nil] at I ⊢;refine bc.runs (is:=[3,4]) C ?_;have Wu:=Ws Hu _ ⟨Hu,rfl,DB.four,DB.rest,DB.mm,fun x ab=>ab⟩;refine bc.R6 (σ:=List kY) (fun _ => .bool (cn (path++[(k:Int)]))) (fun z=>aT s (mn σ mb z)) (fun z=>Ok s (mn σ mb z)∧wQ n Hu σ z) (i:=5) (j:=8) ai C C C C C C C C C C C C (bp.get bp.here I) C C C C
  (aZ.b3 rfl rfl Wu I (aH.ih KV)) ?_ (fun z _ h=>h) ?_ ?_ (fun _ _ ⟨_,_,_,h,_⟩=>by cases h)
 ·rintro y aj ⟨aO,rfl,xZ,⟨⟩,wW,rfl,uL⟩
  rw [append_nil] at xZ ⊢;exact ⟨wW,⟨xZ,uL⟩,rfl,rfl⟩
 ·rintro z ⟨yp,uL⟩ h
  have Wv:=uL.sM _ Wt;obtain ⟨ab1,Ww⟩:=bp.AN (o := .own dx) (L:=mn σ mb z) (mem_cons_of_mem _ (mem_map.2 ⟨_,Wv,rfl⟩));refine bc.eB 5 ai yp C C C C C C C C Ww C ?_;exact bc.congr _ (fun t=>R4 _ _ _ C t) h
 rintro wW ⟨yp,uL⟩;refine bc.run C (bc.done C ?_);have DC:wQ n E σ wW:=⟨uL.four,uL.rest,uL.mm,fun x ab=>uL.sM x (DB.sM x ab)⟩;have Kz:m|||2^ln<2^64:=or_lt_two_pow yn (Nat.pow_lt_pow_right ag AY)
 have Wx:gN|||2^ln<2^64:=or_lt_two_pow yo (Nat.pow_lt_pow_right ag AY)
 unfold gg e4 pI fr bf at *;cases rQ:cn (path++[(k:Int)]) with
 | false=>
  refine dF ?_;cases eF:(σ (bs arg (path++[(k:Int)]))).gz with
  | true=>
   refine aa.de 65 C eF ?_;refine e1 ?_;rw [rQ,eF] at a6;simp only [Bool.not_false,Bool.and_self,if_true] at a6;rw [a6] at hm;exact Fin.bu yp C aL (aH.all _) ⟨by rw [hm];rfl,wW,rfl,DC⟩
  | false=>
   refine aa.cY 65 C eF ?_;refine aa.cY 12 C eF ?_;refine bW ?_;rw [rQ,eF] at a6;simp only [Bool.false_and,false_eq_true,if_false] at a6;exact bn.mk (j+1,m,gN|||2^ln,wW) yp ⟨au,a6,yn,Wx,DC⟩ ca (aH.all _) GY
 | true=>
  refine dF ?_;cases eF:(σ (bs arg (path++[(k:Int)]))).gz with
  | true=>
   refine aa.de 65 C eF ?_;refine aa.de 12 C eF ?_;refine bW ?_;rw [rQ,eF] at a6;simp only [Bool.not_true,Bool.and_false,false_eq_true,if_false,if_true] at a6;exact bn.mk (j+1,m|||2^ln,gN,wW) yp ⟨au,a6,Kz,yo,DC⟩ ca (aH.all _) GY
  | false=>
   refine aa.cY 65 C eF ?_;refine aa.cY 12 C eF ?_;refine bC ?_;rw [rQ,eF] at a6;simp only [Bool.false_and,false_eq_true,if_false,if_true] at a6;exact bn.mk (j+1,m,gN,wW) yp ⟨au,a6,yn,yo,DC⟩ ca (aH.all _) GY
def rW (w:bx) (σ:dT) (arg:Int):Nat→List Int→Bool
 | 0,_=>false
 | k+1,p=>wU σ arg p||(wS σ arg p||(wV w σ (rW w σ arg k) arg p).2)
theorem MV (w:bx) (hw:gw w) (mb n:Nat) (az:n<bz) (σ:dT) (ch:uJ n σ) (gJ:DA w σ) (arg:Int):∀ (k:Nat) (path:List Int),path.length≤2→3≤k+path.length→MS w mb n σ arg (rW w σ arg k) path
  | 0,path,aD,al=>by omega
  | k+1,path,aD,al=>by
    intro E K bg;have U:=fun K bg=>Wm (E:=E) w mb n az σ ch arg path aD K bg
    have ad:=fun K bg=>Wl (E:=E) w mb n az σ ch arg path aD K bg
    have bd:=fun K bg=>Wo (E:=E) w hw mb n az σ ch gJ arg path aD (rW w σ arg k) (fun aB bB=>MV w hw mb n az σ ch gJ arg k (path++[bB]) (by rw [length_append];simp;omega) (by rw [length_append];simp;omega)) K bg
    have hm:rW w σ arg (k+1) path=(wU σ arg path||(wS σ arg path||(wV w σ (rW w σ arg k) arg path).2)):=rfl;refine bE.bh ai Tryz.func270 C C fun s I=>?_
    unfold h1 at *;unfold iD kf at *;refine dv ?_;refine aa.b3 rfl rfl rfl rfl rfl (U K bg) I (aH.all _) ?_ (fun _ _ ⟨h,_⟩ _=>by cases h);rintro _ iF ⟨⟨⟩,n8⟩ I;rw [append_nil] at I ⊢;refine hq ?_;cases aQ:wU σ arg path with
    | true=>
      refine eh ?_;rw [aQ] at hm;exact Fin.bu I C aL (aH.all _) ⟨by rw [hm];rfl,n8⟩
    | false=>
      refine dy ?_;refine aa.b3 rfl rfl rfl rfl rfl (ad iF n8) I (aH.all _) ?_ (fun _ _ ⟨h,_⟩ _=>by cases h);rintro _ Hv ⟨⟨⟩,AZ⟩ I;rw [append_nil] at I ⊢;refine fH ?_;cases lu:wS σ arg path with
      | true=>
        refine eh ?_;rw [aQ,lu] at hm;exact Fin.bu I C aL (aH.all _) ⟨by rw [hm];rfl,AZ⟩
      | false=>
        refine bC ?_;refine aa.b3 rfl rfl rfl rfl rfl (bd Hv AZ) I (aH.all _) ?_ (fun _ _ ⟨h,_⟩ _=>by cases h);rintro _ aco ⟨⟨⟩,Wy⟩ I;rw [append_nil] at I ⊢;refine eh ?_;rw [aQ,lu] at hm;exact Fin.bu I C aL (aH.all _) ⟨by rw [hm];rfl,Wy⟩
def mU (w:bx) (σ:dT):Bool:=(range 3).all fun a=>rW w σ ((a:Nat):Int) 3 []
def Hw:af := .iface 291 (.agg [])
theorem Wz (w:bx) (hw:gw w) (mb n:Nat) (az:n<bz) (σ:dT) (ch:uJ n σ) (gJ:DA w σ) {E:List kY} (K:a8) (bg:lT n E σ mb K) :
  bE Tryz.prog 249 [h1 w mb] K (fun o aO=>(o=if mU w σ then .ret (.cp []) else .panic Hw)∧lT n E σ mb aO):=by
 have U:=fun (a:Nat) K bg=>MV w hw mb n az σ ch gJ ((a:Nat):Int) 3 [] a' a' E K bg
 refine bE.bh ai Tryz.func249 C C fun s I=>?_
 unfold h1 at *;unfold iD kf at *;refine gm ?_;refine ae.b4 [0] C I (σ:=Nat×a8) (fun q=>[(3,.int .i64 (q.1:Int))]) (fun q=>q.2) (fun q=>q.1≤3∧((range q.1).all fun a=>rW w σ ((a:Nat):Int) 3 [])=true∧lT n E σ mb q.2) (fun q=>3-q.1) (0,K) ⟨by omega,rfl,bg⟩ (cq C) (aH.all _) ?_;rintro ⟨j,iF⟩ ⟨aK,a7,n8⟩ I;simp only at aK a7 n8 I ⊢;refine b7 ?_;refine ae.cond C (fun au=>?_) (fun aV=>?_);rotate_left
 ·have aV:j=3:=by simp at aV;omega
  subst aV;have hm:mU w σ=true:=a7;refine dN ?_;exact Fin.bu I C aL (aH.all _) ⟨by rw [hm];rfl,n8⟩
 have au:j<3:=by simp at au;omega
 refine bC ?_;refine aa.b3 rfl rfl rfl rfl rfl (U j iF n8) I (aH.all _) ?_ (fun _ _ ⟨h,_⟩ _=>by cases h);rintro _ Hv ⟨⟨⟩,AZ⟩ I;rw [append_nil] at I ⊢;refine fH ?_;cases aC:rW w σ ((j:Nat):Int) 3 [] with
 | false=>
  refine bC ?_;refine aa.panic C C C C ?_;have hm:mU w σ=false:=by
   unfold mU;rw [List.all_eq_false];exact ⟨j,by simpa using au,by rw [aC];simp⟩
  exact Fin.e9 I aL (aH.all _) ⟨by rw [hm];rfl,AZ⟩
 | true=>
  refine jE ?_;exact bn.mk (j+1,Hv) I ⟨au,by rw [List.range_succ,List.all_append,a7];simp [aC],AZ⟩ ca (aH.all _) (by show 3-(j+1)<3-j;omega)
end Go.Proofs.YtnafpeohfbglmaaGreat
namespace Go.eb
open Go.Proofs.YtnafpeohfbglmaaGreat
mutual
def jf:ak→List ak
 | .mk o a p c n ks=>if (ak.mk o a p c n ks).cW then [.mk o a p c n ks] else kD ks
def kD:List ak→List ak
 | []=>[]
 | x::r=>jf x++kD r
end
theorem DD (f:ak):jf f=if f.cW then [f] else kD f.kids:=by cases f;rw [jf];rfl
def fs (f g:ak):Bool:=decide (f.op=g.op)&&(decide (f.arg=g.arg)&&(decide (f.cls=g.cls)&&(decide (f.n=g.n)&&f.path==g.path)))
def hF (l:List ak) (f:ak):List ak:=if l.any (fun x=>fs x f) then l else l++[f]
def iG (gen:Int) (l:List ak) (m:hW):List ak:=if m.gen=gen then (jf m.fact).foldl hF l else l
def cK (p:bP) (gen:Int):List ak:=p.methods.foldl (iG gen) []
def o0 (p:bP) (gen:Int):Bool:=decide (gen≥0)&&decide (gen<(p.d'.length:Int))
def eY (p:bP) (gen:Int):Int:=if gy p&&o0 p gen then (if (cK p gen).length≤7 then 0 else 3) else 2
def rX:Nat→List ak→Nat→List cf
 | _,[],_=>[]
 | i,f::r,v=>(f,!v.testBit i)::rX (i+1) r v
def rY (l:List ak) (v:Nat):List cf:=rX 0 l v
def lV (w:bx) (l:List ak) (v:Nat):Bool:=mU w (et (rY l v))
def ik (w:bx) (l:List ak):List Nat:=(range (2^l.length)).filter (lV w l)
mutual
def o1 (l:List ak) (v:Nat):ak→Bool
 | .mk o a p c n ks=>
  if o=1 then true
  else if o=5 then !(oa l v 0 ks)
  else if o=6 then oa l v 0 ks&&oa l v 1 ks
  else if o=7 then oa l v 0 ks||oa l v 1 ks
  else match l.findIdx? (fun x=>fs x (.mk o a p c n ks)) with
   | some i=>v.testBit i
   | none=>false
def oa (l:List ak) (v:Nat):Nat→List ak→Bool
 | _,[]=>false
 | 0,x::_=>o1 l v x
 | n+1,_::r=>oa l v n r
end
theorem wX (l:List ak) (v:Nat):∀ (n:Nat) (ks:List ak) (x:ak),ks[n]? = some x→oa l v n ks=o1 l v x
 | 0,y::r,x,h=>by rw [oa];simp at h;rw [h]
 | n+1,y::r,x,h=>by rw [oa];exact wX l v n r x fD
theorem MW (l:List ak) (v:Nat) (f:ak):o1 l v f =
  if f.op=1 then true
  else if f.op=5 then !(oa l v 0 f.kids)
  else if f.op=6 then oa l v 0 f.kids&&oa l v 1 f.kids
  else if f.op=7 then oa l v 0 f.kids||oa l v 1 f.kids
  else match l.findIdx? (fun x=>fs x f) with
   | some i=>v.testBit i
   | none=>false:=by cases f;rw [o1];rfl
def pU (gen:Int) (l:List ak) (v:Nat):Nat→List hW→List Int
 | _,[]=>[]
 | i,m::r=>if m.gen=gen&&o1 l v m.fact then (i:Int)::pU gen l v (i+1) r else pU gen l v (i+1) r
def ds (p:bP) (gen:Int) (l:List ak) (v:Nat):List Int:=pU gen l v 0 p.methods
inductive cr where
 | leaf (ms:List Int)
 | test (atom:Nat) (no yes:cr)
 deriving Inhabited
namespace cr
def lf:cr→Nat
 | .leaf _=>0
 | .test _ a b=>1+max a.lf b.lf
def leaves:cr→Nat
 | .leaf _=>1
 | .test _ a b=>a.leaves+b.leaves
def before (a b:cr):Bool:=decide (a.lf<b.lf)||(decide (a.lf=b.lf)&&decide (a.leaves<b.leaves))
def laid:List b0→cr→List b0
 | l,.leaf ms=>l++[⟨-1,0,0,ms⟩]
 | l,.test i a b=>
  let yq:=laid (l++[⟨i,0,0,[]⟩]) a
  let fR:=laid yq b
  fR.set l.length ⟨i,(l.length:Int)+1,(yq.length:Int),[]⟩
end cr
def qW (have':Nat→List Int):List Nat→Bool
 | []=>true
 | v::r=>r.all fun u=>have' u==have' v
def firstM (have':Nat→List Int):List Nat→List Int
 | []=>[]
 | v::_=>have' v
def wY (out:Option cr) (t:cr):Option cr:=match out with
 | none=>some t
 | some o=>if t.before o then some t else some o
def gq (i:Nat) (vs:List Nat):List Nat:=vs.filter fun v=>v.testBit i
def gr (i:Nat) (vs:List Nat):List Nat:=vs.filter fun v => !v.testBit i
def lW (g:List Nat→cr) (vs:List Nat) (out:Option cr) (i:Nat):Option cr:=
 if (gq i vs).isEmpty||(gr i vs).isEmpty then out else wY out (.test i (g (gr i vs)) (g (gq i vs)))
def mV (A:Nat) (have':Nat→List Int):Nat→List Nat→cr
 | 0,vs => .leaf (firstM have' vs)
 | f+1,vs=>if qW have' vs then .leaf (firstM have' vs) else ((range A).foldl (lW (mV A have' f) vs) none).getD (.leaf [])
def Hx (p:bP) (gen:Int):cr:=
 let l:=cK p gen
 let vs:=ik (b9 p) l
 mV l.length (ds p gen l) vs.length vs
def uM (g:List b0) (v:Nat):Nat→Int→Nat→Int×Nat
 | 0,fe,n=>(fe,n)
 | f+1,fe,n=>
  if (g.getD fe.toNat default).atom≥0 then uM g v f (if v.testBit (g.getD fe.toNat default).atom.toNat then (g.getD fe.toNat default).yes else (g.getD fe.toNat default).no) (n+1)
  else (fe,n)
def leads (g:List b0) (v:Nat):Int×Nat:=uM g v g.length 0 0
def o2 (p:bP) (gen:Int) (g:List b0):Bool:=
 let l:=cK p gen
 g.all (fun x=>decide (x.atom<(l.length:Int)))&&(ik (b9 p) l).all fun v=>(g.getD (leads g v).1.toNat default).ms==ds p gen l v
def nv (p:bP) (gen:Int) (g:List b0):Bool×Int:=
 if eY p gen=2 || !gI g then (false,2) else if eY p gen=0 then (o2 p gen g,0) else (false,eY p gen)
end Go.eb
namespace Go.Proofs.YtnafpeohfbglmaaGreat
open Go.cU Go.eb
theorem A0 (v c:Nat):(((v >>> c &&& 1:Nat):Int)==1)=v.testBit c:=by
 rw [show (((v >>> c &&& 1:Nat):Int)==1)=decide (((v >>> c &&& 1:Nat):Int)=1) from rfl,Nat.and_one_is_mod,Nat.testBit_eq_decide_div_mod_eq,Nat.shiftRight_eq_div_pow];apply decide_eq_decide.2;omega
theorem MX (g:List b0) (aw:gI g=true) (v:Nat) (av:v<2^63):aR Tryz.prog 75 [fO g,.int .i64 (v:Int)] (.cp [.int .i64 (leads g v).1,.int .i64 ((leads g v).2:Int)]):=by
 have aq:=bA;refine aR.bh ai Tryz.func75 C C fun s I=>?_
 obtain ⟨lz,eS⟩:=wj aw;unfold fO;refine gm ?_;refine ae.b4 [0,1] C I (σ:=Nat×Nat×Nat) (fun q=>[(4,.int .i64 (q.1:Int)),(5,.int .i64 (q.2.1:Int))]) (fun _=>[]) (fun q=>q.1<g.length∧leads g v=uM g v q.2.2 (q.1:Int) q.2.1∧g.length≤q.1+q.2.2∧q.2.1≤q.1) (fun q=>g.length-q.1) (0,0,g.length) ⟨lz,rfl,by simp,Nat.le_refl _⟩ (cq C) aX ?_;rintro ⟨j,n,f⟩ ⟨aK,an,a6,az⟩ I
 try simp only at aK an a6 az I ⊢
 obtain ⟨x,ab,bJ⟩:=b1 (f:=eW) aK;have aU:=uq aw ab;obtain ⟨f,rfl⟩:∃ k,f=k+1:=⟨f-1,by omega⟩;rw [uM,toNat_natCast,show g.getD j default=x by rw [getD_eq_getElem?_getD,ab];rfl] at an;unfold eW gZ bf at bJ;refine dF ?_;refine ae.cond C (fun a7=>?_) (fun a7=>?_);rotate_left
 ·rw [if_neg wE] at an
  rw [an];refine dN ?_;exact bl I
 have a7:x.atom≥0:=by simpa using a7
 rw [if_pos a7] at an;have ez:=(kc ag).1 aU;obtain ⟨a,A1⟩:∃ a:Nat,x.atom=a:=⟨x.atom.toNat,by omega⟩;rw [A1,toNat_natCast] at an;rw [A1] at bJ;refine bC ?_;refine aa.shr _ C C C C C C ag (sV ag) ?_;refine aa.bits _ C C C C C C (zT (n:=1) (Nat.lt_of_le_of_lt (Nat.shiftRight_le v a) av) ag) ?_;refine fH ?_;have aq:=A0 v a;refine ae.cond C (fun aC=>?_) (fun aC=>?_)
 ·rw [aC] at aq
  rw [← aq,if_pos C] at an;obtain ⟨y,ay⟩:∃ y:Nat,x.yes=y:=⟨x.yes.toNat,by omega⟩;rw [ay] at an bJ;refine bC ?_;exact bn.mk (y,n+1,f) I ⟨by show y<g.length;omega,by rw [an],by show g.length≤y+f;omega,by show n+1≤y;omega⟩ ca aX Dp
 ·rw [aC] at aq
  rw [← aq,if_neg a'] at an;obtain ⟨y,ay⟩:∃ y:Nat,x.no=y:=⟨x.no.toNat,by omega⟩;rw [ay] at an bJ;refine bC ?_;exact bn.mk (y,n+1,f) I ⟨by show y<g.length;omega,by rw [an],by show g.length≤y+f;omega,by show n+1≤y;omega⟩ ca aX Dp
theorem Hy {g:List b0} (aw:gI g=true) (v:Nat):∃ j x,(leads g v).1=(j:Nat)∧g[j]? = some x∧¬ x.atom≥0:=by
 obtain ⟨lz,eS⟩:=wj aw;suffices h:∀ (f j n:Nat),j<g.length→g.length≤j+f→∃ k x,(uM g v f (j:Int) n).1=(k:Nat)∧g[k]? = some x∧¬ x.atom≥0 from h g.length 0 0 lz a'
 intro f
 induction f with
 | zero=>intro j n U ad;omega
 | succ f a1=>
  intro j n U ad;obtain ⟨x,ab,-⟩:=b1 (f:=eW) U;have aU:=uq aw ab;rw [uM,toNat_natCast,show g.getD j default=x by rw [getD_eq_getElem?_getD,ab];rfl];by_cases a7:x.atom≥0
  ·rw [if_pos a7]
   have ez:=(kc ag).1 aU;split
   ·obtain ⟨y,ay⟩:∃ y:Nat,x.yes=y:=⟨x.yes.toNat,by omega⟩
    rw [ay];exact a1 y (n+1) ag ag
   ·obtain ⟨y,ay⟩:∃ y:Nat,x.no=y:=⟨x.no.toNat,by omega⟩
    rw [ay];exact a1 y (n+1) ag ag
  ·rw [if_neg a7];exact ⟨j,x,rfl,ab,a7⟩
theorem WA (fv:af) (Go:List ak→a8→Prop) (fA:a8→Prop) (fI:af→a8→Prop) (ez:∀ x rem K,Go (x::rem) K→dp Tryz.prog fv [x.bK] K (AF Go fA fI rem)) :
  ∀ (n:Nat) (f:ak),f.size≤n→n<bz→∀ (rest:List ak) (K:a8),Go (jf f++rest) K→bE Tryz.prog 149 [f.bK,fv] K (AF Go fA fI rest):=by
 have aq:=bA;intro n
 induction n with
 | zero=>intro x h;have:=x.size_eq;omega
 | succ n a1=>
  intro f az iY rest K dz;have iB:=f.size_eq;have kW:=ak.pz f.kids;rw [DD] at dz;refine bE.bh ai Tryz.func149 C C fun s I=>?_
  cases aB:f.cW with
  | true=>
   rw [aB,if_pos C] at dz;have al:=ez f rest K dz;rw [ak.bX] at al ⊢;unfold ak.cells at al ⊢;have b2:f.op=2∨f.op=3∨f.op=4:=by unfold ak.cW at aB;simp at aB;omega
   rcases b2 with h|h|h
   all_goals
    rw [h] at al ⊢;refine bC ?_;refine aa.gH C C C C C C al I (aH.all _) ?_ ?_
    ·rintro x aO (⟨⟨⟩,aw⟩|⟨⟨⟩,ax⟩|⟨_,⟨⟩,_⟩) I
     all_goals rw [append_nil] at I ⊢
     ·refine eh ?_
      exact Fin.bu I C aL (aH.all _) (.inl ⟨rfl,aw⟩)
     ·refine eh ?_
      exact Fin.bu I C aL (aH.all _) (.inr (.inl ⟨rfl,ax⟩))
    ·rintro x aO (⟨h,_⟩|⟨h,_⟩|⟨v,⟨⟩,aD⟩) I
     ·cases h
     ·cases h
     rw [append_nil] at I ⊢;exact Fin.e9 I aL (aH.all _) (.inr (.inr ⟨_,rfl,aD⟩))
  | false=>
   rw [aB,if_neg a'] at dz;have b2:f.op≠2∧f.op≠3∧f.op≠4:=by unfold ak.cW at aB;simp at aB;omega
   rw [ak.bX];unfold ak.cells;refine dv ?_;refine aa.cY 10 C cG ?_;refine dy ?_;refine aa.cY 15 C cG ?_;refine fH ?_;refine ae.cond C (fun h=>by simp at h;omega) (fun _=>?_);refine jb ?_;refine ae.b4 [1,24,25] C I (σ:=Nat×a8) (fun q=>[(26,.int .i64 (q.1:Int))]) (fun q=>q.2) (fun q=>q.1≤f.kids.length∧Go (kD (f.kids.drop q.1)++rest) q.2) (fun q=>f.kids.length-q.1) (0,K) ⟨zero_le _,dz⟩ (cq C) (aH.all _) ?_;rintro ⟨j,iF⟩ ⟨aK,dz⟩ I
   try simp only at aK dz I ⊢
   refine b7 ?_;refine ae.cond C (fun au=>?_) (fun aV=>?_);rotate_left
   ·have aV:j=f.kids.length:=by simp at aV;omega
    rw [ep ag,kD,nil_append] at dz;refine dN ?_;exact Fin.bu I C aL (aH.all _) (.inl ⟨rfl,dz⟩)
   have au:j<f.kids.length:=by simpa using au
   obtain ⟨x,ab,bJ⟩:=b1 (f:=ak.bK) au;have c5:=ak.hV (mem_of_getElem? ab);rw [drop_cons ab,kD,append_assoc] at dz;have i1:=a1 x ag ag _ iF dz;rw [ak.bX] at i1 bJ;unfold ak.cells at i1 bJ;refine ej ?_;refine aa.b3 C C C C C i1 I (aH.all _) ?_ ?_
   ·rintro y aO (⟨⟨⟩,aw⟩|⟨⟨⟩,ax⟩|⟨_,⟨⟩,_⟩) I
    all_goals rw [append_nil] at I ⊢
    ·refine bC ?_
     exact bn.mk (j+1,aO) I ⟨au,aw⟩ ca (aH.all _) nY
    ·refine e1 ?_
     exact Fin.bu I C aL (aH.all _) (.inr (.inl ⟨rfl,ax⟩))
   ·rintro y aO (⟨h,_⟩|⟨h,_⟩|⟨v,⟨⟩,aD⟩) I
    ·cases h
    ·cases h
    rw [append_nil] at I ⊢;exact Fin.e9 I aL (aH.all _) (.inr (.inr ⟨_,rfl,aD⟩))
theorem WB (f:ak) (a6:f.size<bz):xP Tryz.prog 148 [] [.bw f.cells 0] [] ak.bK (jf f):=by
 intro l Go fA fI oG K bg;have hw:=WA (lE l) Go fA fI (fun x rem K aw=>oG x rem K aw) f.size f (Nat.le_refl _) a6 [] K (by rw [append_nil];exact bg);rw [ak.bX] at hw;refine bE.bh ai Tryz.func148 C C fun s I=>?_
 rw [nil_append] at I ⊢;unfold ak.cells at *;refine jS ?_;refine aa.b3 C C C C C hw I (aH.all _) ?_ ?_
 ·rintro x aO (⟨⟨⟩,h⟩|⟨⟨⟩,h⟩|⟨_,⟨⟩,_⟩) I
  all_goals rw [append_nil] at I ⊢
  ·refine fH ?_
   exact Fin.bu I C aL (aH.all _) (.inl ⟨rfl,.inl h⟩)
  ·refine fH ?_
   exact Fin.bu I C aL (aH.all _) (.inl ⟨rfl,.inr h⟩)
 ·rintro x aO (⟨h,_⟩|⟨h,_⟩|⟨v,⟨⟩,h⟩) I
  ·cases h
  ·cases h
  rw [append_nil] at I ⊢;exact Fin.e9 I aL (aH.all _) (.inr ⟨_,rfl,h⟩)
theorem WC (f:ak):aR Tryz.prog 101 [f.bK] (.func 148 [] [.bw f.cells 0]):=by
 have aq:=bA;refine aR.bh ai Tryz.func101 C C fun s I=>?_
 rw [ak.bX];unfold ak.cells;refine gv ?_;exact bl I
end Go.Proofs.YtnafpeohfbglmaaGreat
namespace Go.cU
section
variable {P:Program} {Γ:cw} {N:Nat} {ops:Array Oper} {Q:b8→Env→ao→Prop} {env:Env} {s:ao} {l:List Oper} {o:Oper} {d:Nat} {L R:a8}
def Hz (s:ao) (R:a8) (e:TypeId) (sz n:Nat) (xs:List af) (r:af) (aj:ao):Prop:=
 ∃ aW cd cs',r=eo aW n cd∧aj=aT s ((.own aW,.box e cs')::R)∧Ok s ((.own aW,.box e cs')::R)∧cs'.length=cd*sz∧n≤cd∧cs'.take (n*sz)=xs
theorem MY (z:Array Value) (k:Nat):(Builtin.zeroCells z k).toList.length=k*z.size:=by
 rw [length_toList];simp [Builtin.zeroCells]
theorem MZ (aP:bQ P Γ) {w:World} {p:bR} {S:ao} (cc:dm w p S) {t bH e ty:TypeId} {it ct aG:bM} {bU sz:Nat} {olds:List Value} {xs ys:List af} {dj:bL} {base:Option Addr} {n cap:Nat} {qt:Value}
  (aM:Γ.get? t=some it) (br:it.bF = .aA e) (cV:Γ.get? bH=some ct) (dn:∀ k,ct.bF ≠ .int k) (bI:Γ.get? e=some aG) (U:aG.size=sz) (dO:Nat.beq aG.zero.cells.size aG.size=true)
  (aF:bG w p olds xs) (az:n*sz=xs.length) (pd:(Builtin.firstCells sz n (.slice base n cap)).run P w.drew = .ok olds.toArray w.drew) (ay:Rel w p qt (.aA bU [.agg ys] dj)) (c8:bU=sz) (h5:ys.length=sz)
  (au:cap<n+1) (aq:(n+1)*aG.bytes≤140737488355328) (ei:n+1≤9223372036854775807) :
  ∃ aW cd cs' w',(Builtin.append_ #[t,bH] ty #[.slice base n cap,qt]).run P w = .ok (.slice (some ⟨aW,0,none⟩) (n+1) cd) w'∧S aW=none∧dc w p w' p∧Kept S (S.set aW (.box e cs')) w p w' p∧dm w' p (S.set aW (.box e cs')) ∧
   cs'.length=cd*sz∧n+1≤cd∧cs'.take ((n+1)*sz)=xs++ys:=by
 obtain ⟨info,d,g1,g2,g3,-⟩:=aP.parts aM;obtain ⟨mq,c3,ef,di,dL,-⟩:=aP.parts cV;obtain ⟨jL,kj,cD,dh,fa,eD,jM,jl⟩:=aP.parts bI;have ax:d = .slice e:=by rw [br] at g3;cases d<;>simp [ev] at g3;rw [g3]
 subst ax;have cl:∀ k,c3 ≠ .int k:=fun k e'=>by subst e';exact dn k dL.symm
 obtain ⟨us,ic,pe,jN,j6,sy,sA,sB⟩:=qd ay (.inr c8);subst c8;have tj:bG w p (flat us) ys:=by
  cases ic with
  | cons u _ vk _ hu vS=>
  cases vS;cases hu with
  | agg c _ aC=>simpa [flat,Value.cells] using aC
 have my:=tj.length;have fy:=growslice_fits (need:=n+1) (old:=cap) (bytes:=aG.bytes) au aq;have cO:=zm (ty:=ty) w g2 di cl cD jl (base:=base) (sLen:=n) (sCap:=cap) (m:=1) (olds:=olds) (news:=flat us) (jN P)
  (by rw [eD,U];exact pd) (by rw [eD,U];exact j6 P w.drew (fun _ _ _=>rfl)) au ag (by rw [jM];exact fy)
 have m7:n+1≤grownCap w (n+1) cap e:=by simp [grownCap,Question.cut]
 have gn:olds.length=n*bU:=by rw [aF.length,az]
 have ot:=Nat.eq_of_beq_eq_true dO;generalize sx:(Builtin.zeroCells aG.zero.cells (grownCap w (n+1) cap e-(n+1))).toList=aY at cO;have m8:aY.length=(grownCap w (n+1) cap e-(n+1))*bU:=by
  rw [← sx,MY,ot,U]
 generalize grownCap w (n+1) cap e=G at cO m7 m8;have vT:=xr cc
 obtain ⟨ar,hle,aE,kM⟩:=rb vT (.cells (olds++flat us++aY).toArray e (0,0)) (.box e (xs++ys++aY.map fun _ => .any)) (fun w' iL av fw=>⟨_,iL,by
  refine bG.append (bG.append (fw _ _ (show bG w.drew p olds xs from aF.mono kJ)) (fw _ _ (tj.mono kJ))) (bG.zM aY),fun o aD=>absurd (cc.lt _ _ aD) (by show ¬ w.heap.size<w.heap.size;omega)⟩)
 rw [show w.drew.heap.size=w.heap.size from rfl] at ar aE kM;have hm:(n+1)*bU=n*bU+bU:=succ_mul n bU;refine ⟨w.heap.size,G,xs++ys++aY.map (fun _=>af.any),_,cO,ar,kJ.trans hle,(va (w:=w) (p:=p)).trans (kJ (w:=w) (p:=p)).size aE,kM,?_,m7,?_⟩
 ·simp only [length_append,length_map,m8]
  rw [← az,h5,← hm,← Nat.add_mul];congr 1;omega
 ·rw [List.take_append_of_le_length cG,take_of_length_le cG]
theorem aZ.rZ (aP:bQ P Γ) (I:Ok s L) {t bH e:TypeId} {x y:Operand} {it ct aG:bM} {dR bU sz:Nat} {ys:List af} {dj:bL}
    (ah:o.op = .call { callee := .builtin .append,args := #[x,y],argTypes := #[t,bH] }) (aM:Γ.get? t=some it) (br:it.bF = .aA e) (cV:Γ.get? bH=some ct) (dn:∀ k,ct.bF ≠ .int k)
    (bI:Γ.get? e=some aG) (U:aG.size=sz) (dO:Nat.beq aG.zero.cells.size aG.size=true) (ab:aJ env x=some (.aA dR [] .nil)) (ay:aJ env y=some (.aA bU [.agg ys] dj)) (c8:bU=sz) (h5:ys.length=sz) (aq:1*aG.bytes≤140737488355328)
    {X:af→ao→Prop}:aZ P N o env (aT s L) (fun r aj=>Hz s L e sz 1 ys r aj) X:=by
  refine aZ.ki i' fun ro B a w p aI=>?_
  have ga:=aI.aJ ab;have fh:=aI.aJ ay;have eI:=fun val w'=>ua (P:=P) (a:=a) (val:=val) (w:=w) (w':=w') ah
  generalize ew:a.eval x=dP at ga eI;generalize fb:a.eval y=fU at fh eI;have sS:dP = .slice none 0 0:=by
    cases ga with
    | hR=>rfl
    | im a _ _ h=>rcases h with h|h<;>cases h
    | aA g off n cap _ vs _ _ az=>exact absurd C az
  subst sS
  obtain ⟨aW,cd,cs',w',fp,gB,hp,iW,l5,l6,mG,mH⟩:=MZ (ty:=o.type) aP aI.wf (base:=none) (n:=0) (cap:=0) (olds:=[]) (xs:=[]) aM br cV dn bI U dO .nil a' (by
    have:=run_firstCells_none (P:=P) w.drew sz 0 0 0
    simpa using this) fh c8 h5 ag (by simpa using aq) ag
  rw [zero_add] at fp mG mH;exact ⟨_,w',_,p,_,eI _ _ fp,hp,iW,l5,⟨aW,cd,cs',rfl,rfl,⟨gB,I⟩,l6,mG,by simpa using mH⟩,.hv _⟩
theorem aZ.r0 (aP:bQ P Γ) (I:Ok s L) {t bH e:TypeId} {x y:Operand} {it ct aG:bM} {b n cap bU sz:Nat} {cs ys:List af} {dj:bL}
    (ah:o.op = .call { callee := .builtin .append,args := #[x,y],argTypes := #[t,bH] }) (aM:Γ.get? t=some it) (br:it.bF = .aA e) (cV:Γ.get? bH=some ct) (dn:∀ k,ct.bF ≠ .int k)
    (bI:Γ.get? e=some aG) (U:aG.size=sz) (dO:Nat.beq aG.zero.cells.size aG.size=true) (ab:aJ env x=some (eo b n cap)) (ar:bp L (.own b) (.box e cs) R) (cv:cs.length=cap*sz) (az:n≤cap)
    (ay:aJ env y=some (.aA bU [.agg ys] dj)) (c8:bU=sz) (h5:ys.length=sz) (dJ:ys.all e7=true) (aq:(n+1)*aG.bytes≤140737488355328) (ei:n+1≤9223372036854775807)
    {X:af→ao→Prop}:aZ P N o env (aT s L) (fun r aj=>Hz s R e sz (n+1) (cs.take (n*sz)++ys) r aj) X:=by
  obtain ⟨cg,bY,eR⟩:=ar.perm I;refine aZ.ki i' fun ro B a w p aI=>?_
  have ga:=aI.aJ ab;have fh:=aI.aJ ay;have eI:=fun val w'=>ua (P:=P) (a:=a) (val:=val) (w:=w) (w':=w') ah
  generalize ew:a.eval x=dP at ga eI;generalize fb:a.eval y=fU at fh eI;cases ga;obtain ⟨vs,c4,dd,eZ⟩:=aI.wf.obj _ _ (ar.get I);have fw:vs.toList.length=cap*sz:=by rw [dd.length,cv]
  have s5:n*sz≤cap*sz:=Nat.mul_le_mul_right _ az;have hA:=dd.take (n*sz);have pg:∀ w':World,(∀ j,w'.cell? ⟨b,j,none⟩=w.cell? ⟨b,j,none⟩)→(Builtin.firstCells sz n (.slice (some ⟨b,0,none⟩) n cap)).run P w' = .ok (vs.toList.take (n*sz)).toArray w':=by
    intro w' iL;refine run_firstCells_some (P:=P) w' sz n ⟨b,0,none⟩ n cap (vs.toList.take (n*sz)) (by rw [length_take,fw];omega) (fun j u hu=>?_);rw [k5,zero_add,iL,jB c4];rw [getElem?_take] at hu;split at hu
    · simpa using hu
    · cases hu
  by_cases au:cap<n+1
  · obtain ⟨aW,cd,cs',w',fp,gB,hp,iW,l5,l6,mG,mH⟩:=MZ (ty:=o.type) aP aI.wf (base:=some ⟨b,0,none⟩) (n:=n) (cap:=cap) (olds:=vs.toList.take (n*sz)) (xs:=cs.take (n*sz)) aM br cV dn bI U dO hA xk
      (pg w.drew fun _=>rfl) fh c8 h5 au aq ei
    have hH:ao.Sub ((aT s R).set aW (.box e cs')) ((aT s L).set aW (.box e cs')):=by
      refine CC (k := .own aW) ?_;rw [cg];exact xK (k := .own b) (ao.ou _) bY
    have aw:aT s R aW=none:=by
      have h:=gB;rw [cg] at h;exact (ao.tL h).2
    exact ⟨_,w',_,p,_,eI _ _ fp,hp,iW.sub hH,l5.sub hH,⟨aW,cd,cs',rfl,rfl,⟨aw,eR⟩,l6,mG,mH⟩,.hv _⟩
  · obtain ⟨info,d,g1,g2,g3,-⟩:=aP.parts aM
    obtain ⟨mq,c3,ef,di,dL,-⟩:=aP.parts cV;obtain ⟨jL,kj,cD,dh,fa,eD,jM,jl⟩:=aP.parts bI;have ax:d = .slice e:=by rw [br] at g3;cases d<;>simp [ev] at g3;rw [g3]
    subst ax;have cl:∀ k,c3 ≠ .int k:=fun k e'=>by subst e';exact dn k dL.symm
    subst c8;obtain ⟨us,ic,pe,jN,j6,sy,sA,sB⟩:=qd (sz':=bU) fh (.inr rfl);have tj:bG w p (flat us) ys:=by
      cases ic with
      | cons u _ vk _ hu vS=>
      cases vS;cases hu with
      | agg c _ aC=>simpa [flat,Value.cells] using aC
    have my:=tj.length;have ma:∀ x∈flat us,x.oneCell'=true:=qb tj dJ;have eH:vs.size=cap*bU:=by rw [← length_toList];exact fw
    have hm:(n+1)*bU=n*bU+bU:=succ_mul n bU;have abm:(n+1)*bU≤cap*bU:=Nat.mul_le_mul_right _ ag;have cO:=B' (ty:=o.type) (P:=P) w g2 di cl cD b n cap vs c4 (xv:=fU) (m:=1) (news:=flat us) (jN P) (by rw [eD,U];exact j6 P w (fun _ _ _=>rfl)) ma ag (by rw [eD,U,eH];omega);rw [eD,U] at cO;have hc:bG w p (vs.toList.take (n*bU)++flat us++vs.toList.drop (n*bU+(flat us).length)) (cs.take (n*bU)++ys++cs.drop (n*bU+(flat us).length)):=bG.append (bG.append hA tj) (dd.drop _);have ch:(aT s L) b=some (.box e cs):=ar.get I
    obtain ⟨dG,j',iy⟩:=vj aI.wf ch (vs':=(vs.toList.take (n*bU)++flat us++vs.toList.drop (n*bU+(flat us).length)).toArray) (cs':=cs.take (n*bU)++ys++cs.drop (n*bU+(flat us).length)) (fun zO bt=>by
      rw [c4] at bt;cases bt
      simp only [List.size_toArray,length_append,length_take,length_drop,fw]
      rw [eH];omega) (by simpa using hc) _ C
    obtain ⟨f1,f2⟩:=ar.put (.box e (cs.take (n*bU)++ys++cs.drop (n*bU+(flat us).length))) I;refine ⟨_,_,_,p,_,eI _ _ cO,dG,j',iy,⟨b,cap,cs.take (n*bU)++ys++cs.drop (n*bU+(flat us).length),rfl,f1,f2,?_,by omega,?_⟩,.hv _⟩
    · simp only [length_append,length_take,length_drop,cv];omega
    · have:(cs.take (n*bU)++ys).length=(n+1)*bU:=by rw [length_append,length_take,cv];omega
      rw [List.take_append_of_le_length ag,take_of_length_le ag]
theorem aa.rZ (aP:bQ P Γ) (I:Ok s L) {t bH e:TypeId} {x y:Operand} {it ct aG:bM} {dR bU sz:Nat} {ys:List af} {dj:bL} (aw:guardOf ops env o=some true) (ax:o.dst=some d) (aU:Nat.blt d N=true)
  (ah:o.op = .call { callee := .builtin .append,args := #[x,y],argTypes := #[t,bH] }) (aM:Γ.get? t=some it) (br:it.bF = .aA e) (cV:Γ.get? bH=some ct) (dn:∀ k,ct.bF ≠ .int k)
  (bI:Γ.get? e=some aG) (U:aG.size=sz) (dO:Nat.beq aG.zero.cells.size aG.size=true) (ab:aJ env x=some (.aA dR [] .nil)) (ay:aJ env y=some (.aA bU [.agg ys] dj)) (c8:bU=sz) (h5:ys.length=sz) (aq:1*aG.bytes≤140737488355328)
  (h:∀ aW cd cs',cs'.length=cd*sz→1≤cd→cs'.take (1*sz)=ys→Ok s ((.own aW,.box e cs')::L)→aa P N ops l Q ((d,eo aW 1 cd)::env) (aT s ((.own aW,.box e cs')::L))):aa P N ops (o::l) Q env (aT s L):=by
 refine aa.op aw ax aU (aZ.rZ aP I ah aM br cV dn bI U dO ab ay c8 h5 aq (X:=fun _ _=>False)) ?_ (fun _ _ h=>h.elim);rintro r aj ⟨aW,cd,cs',rfl,rfl,ad,al,bd,bD⟩;exact h aW cd cs' al bd bD ad
theorem aa.r0 (aP:bQ P Γ) (I:Ok s L) {t bH e:TypeId} {x y:Operand} {it ct aG:bM} {b n cap bU sz:Nat} {cs ys:List af} {dj:bL} (aw:guardOf ops env o=some true) (ax:o.dst=some d) (aU:Nat.blt d N=true)
  (ah:o.op = .call { callee := .builtin .append,args := #[x,y],argTypes := #[t,bH] }) (aM:Γ.get? t=some it) (br:it.bF = .aA e) (cV:Γ.get? bH=some ct) (dn:∀ k,ct.bF ≠ .int k)
  (bI:Γ.get? e=some aG) (U:aG.size=sz) (dO:Nat.beq aG.zero.cells.size aG.size=true) (ab:aJ env x=some (eo b n cap)) (ar:bp L (.own b) (.box e cs) R) (cv:cs.length=cap*sz) (az:n≤cap)
  (ay:aJ env y=some (.aA bU [.agg ys] dj)) (c8:bU=sz) (h5:ys.length=sz) (dJ:ys.all e7=true) (aq:(n+1)*aG.bytes≤140737488355328) (ei:n+1≤9223372036854775807)
  (h:∀ aW cd cs',cs'.length=cd*sz→n+1≤cd→cs'.take ((n+1)*sz)=cs.take (n*sz)++ys→Ok s ((.own aW,.box e cs')::R)→aa P N ops l Q ((d,eo aW (n+1) cd)::env) (aT s ((.own aW,.box e cs')::R))):aa P N ops (o::l) Q env (aT s L):=by
 refine aa.op aw ax aU (aZ.r0 aP I ah aM br cV dn bI U dO ab ar cv az ay c8 h5 dJ aq ei (X:=fun _ _=>False)) ?_ (fun _ _ h=>h.elim);rintro r aj ⟨aW,cd,cs',rfl,rfl,ad,al,bd,bD⟩;exact h aW cd cs' al bd bD ad
end
section
variable {J:ao→Prop} {P:Program} {Γ:cw} {N:Nat} {Q:b8→Env→ao→Prop} {env:Env} {s:ao} {l:List Oper} {o:Oper} {d m:Nat} {L R:a8}
theorem bm.rZ (i:Nat) (aP:bQ P Γ) (I:Ok s L) {t bH e:TypeId} {x y:Operand} {it ct aG:bM} {dR bU sz:Nat} {ys:List af} {dj:bL} (aF:eE l.toArray m (idxs 0 l)=[i]) (aQ:l.toArray[i]? = some o) (ax:o.dst=some d) (aU:Nat.blt d N=true)
  (aw:c7 l env o)
  (ah:o.op = .call { callee := .builtin .append,args := #[x,y],argTypes := #[t,bH] }) (aM:Γ.get? t=some it) (br:it.bF = .aA e) (cV:Γ.get? bH=some ct) (dn:∀ k,ct.bF ≠ .int k)
  (bI:Γ.get? e=some aG) (U:aG.size=sz) (dO:Nat.beq aG.zero.cells.size aG.size=true) (ab:aJ (bZ l env o) x=some (.aA dR [] .nil)) (ay:aJ (bZ l env o) y=some (.aA bU [.agg ys] dj)) (c8:bU=sz) (h5:ys.length=sz) (aq:1*aG.bytes≤140737488355328)
  (aK:∀ aW cd cs',Ok s ((.own aW,.box e cs')::L)→cs'.length=cd*sz→J (aT s ((.own aW,.box e cs')::L)))
  (h:∀ aW cd cs',cs'.length=cd*sz→1≤cd→cs'.take (1*sz)=ys→Ok s ((.own aW,.box e cs')::L)→bm J P Γ N l.toArray Q (bV (m|||2^i)) ((d,eo aW 1 cd)::env) (aT s ((.own aW,.box e cs')::L))):bm J P Γ N l.toArray Q (bV m) env (aT s L):=by
 refine bm.one aF aQ ax aU aw (aZ.rZ aP I ah aM br cV dn bI U dO ab ay c8 h5 aq (X:=fun _ _=>False)) ?_ ?_ (fun _ _ h=>h.elim)
 ·rintro r aj ⟨aW,cd,cs',rfl,rfl,ad,al,bd,bD⟩
  exact .inl (aK aW cd cs' ad al)
 ·rintro r aj ⟨aW,cd,cs',rfl,rfl,ad,al,bd,bD⟩
  exact h aW cd cs' al bd bD ad
theorem bm.r0 (i:Nat) (aP:bQ P Γ) (I:Ok s L) {t bH e:TypeId} {x y:Operand} {it ct aG:bM} {b n cap bU sz:Nat} {cs ys:List af} {dj:bL} (aF:eE l.toArray m (idxs 0 l)=[i]) (aQ:l.toArray[i]? = some o) (ax:o.dst=some d) (aU:Nat.blt d N=true)
  (aw:c7 l env o)
  (ah:o.op = .call { callee := .builtin .append,args := #[x,y],argTypes := #[t,bH] }) (aM:Γ.get? t=some it) (br:it.bF = .aA e) (cV:Γ.get? bH=some ct) (dn:∀ k,ct.bF ≠ .int k)
  (bI:Γ.get? e=some aG) (U:aG.size=sz) (dO:Nat.beq aG.zero.cells.size aG.size=true) (ab:aJ (bZ l env o) x=some (eo b n cap)) (ar:bp L (.own b) (.box e cs) R) (cv:cs.length=cap*sz) (az:n≤cap)
  (ay:aJ (bZ l env o) y=some (.aA bU [.agg ys] dj)) (c8:bU=sz) (h5:ys.length=sz) (dJ:ys.all e7=true) (aq:(n+1)*aG.bytes≤140737488355328) (ei:n+1≤9223372036854775807)
  (aK:∀ aW cd cs',Ok s ((.own aW,.box e cs')::R)→cs'.length=cd*sz→J (aT s ((.own aW,.box e cs')::R)))
  (h:∀ aW cd cs',cs'.length=cd*sz→n+1≤cd→cs'.take ((n+1)*sz)=cs.take (n*sz)++ys→Ok s ((.own aW,.box e cs')::R)→bm J P Γ N l.toArray Q (bV (m|||2^i)) ((d,eo aW (n+1) cd)::env) (aT s ((.own aW,.box e cs')::R))):bm J P Γ N l.toArray Q (bV m) env (aT s L):=by
 refine bm.one aF aQ ax aU aw (aZ.r0 aP I ah aM br cV dn bI U dO ab ar cv az ay c8 h5 dJ aq ei (X:=fun _ _=>False)) ?_ ?_ (fun _ _ h=>h.elim)
 ·rintro r aj ⟨aW,cd,cs',rfl,rfl,ad,al,bd,bD⟩
  exact .inl (aK aW cd cs' ad al)
 ·rintro r aj ⟨aW,cd,cs',rfl,rfl,ad,al,bd,bD⟩
  exact h aW cd cs' al bd bD ad
end
section
variable {P:Program} {Γ:cw} {N:Nat} {env:Env} {s:ao} {ops:Array Oper} {rest:List Oper} {Q:b8→Env→ao→Prop} {L R:a8}
theorem M0:∀ (ys r:List af),tH ys.length (ys++r)=some ys
 | [],r=>by cases r<;>rfl
 | y::ys,r=>by rw [length_cons,cons_append,tH,M0 ys r]
theorem M1:∀ (a r:List af),p9 a.length (a++r)=some r
 | [],r=>rfl
 | y::ys,r=>by rw [length_cons,cons_append,p9];exact M1 ys r
def HA (i:bM):Bool:=match i.bF with
 | .struct _=>true
 | _=>false
theorem WD {i:bM} {a ys z:List af} (U:HA i=true) (aB:ys.length=i.size) {off:Nat} (a7:a.length=off):hI i (a++(ys++z)) off=some (.agg ys):=by
 unfold hI HA at *;subst a7;rw [M1];simp only;split at U
 ·rename_i h;rw [h];simp only;rw [← aB,M0]
 ·cases U
theorem DE {xss:List (List af)} {sz:Nat} (b':∀ c∈xss,c.length=sz):∀ {j:Nat} {ys:List af},xss[j]? = some ys→∃ a z,xss.flatten=a++(ys++z)∧a.length=j*sz∧∀ ys',(xss.set j ys').flatten=a++(ys'++z):=by
 induction xss with
 | nil=>intro j ys h;cases h
 | cons x r a1=>
  intro j ys h;cases j with
  | zero=>
   simp at h;subst h;exact ⟨[],r.flatten,by simp,by simp,fun ys'=>by simp⟩
  | succ j=>
   obtain ⟨a,z,U,ad,al⟩:=a1 (fun c aC=>b' c (mem_cons_of_mem _ aC)) fD;refine ⟨x++a,z,by rw [List.flatten_cons,U,append_assoc],by rw [length_append,b' x mem_cons_self,ad,succ_mul,Nat.add_comm],fun ys'=>?_⟩;rw [List.set_cons_succ,List.flatten_cons,al,append_assoc]
theorem WE {xss:List (List af)} {sz:Nat} (b':∀ c∈xss,c.length=sz):xss.flatten.length=xss.length*sz:=by
 induction xss with
 | nil=>simp
 | cons x r a1=>rw [List.flatten_cons,length_append,b' x mem_cons_self,a1 (fun c aC=>b' c (mem_cons_of_mem _ aC)),length_cons,succ_mul,Nat.add_comm]
theorem M3 {i:bM} {cs:List af} {xss:List (List af)} {n j:Nat} {ys:List af} (U:HA i=true) (b':∀ c∈xss,c.length=i.size) (ab:cs.take (n*i.size)=xss.flatten) (aK:xss[j]? = some ys):hI i cs (j*i.size)=some (.agg ys):=by
 obtain ⟨a,z,ad,al,-⟩:=DE b' aK;have:cs=a++(ys++(z++cs.drop (n*i.size))):=by
  conv=>lhs;rw [← take_append_drop (n*i.size) cs,ab,ad]
  simp
 rw [this];exact WD U (b' ys (mem_of_getElem? aK)) al
theorem HB:∀ (ys ys' a z:List af),ys'.length=ys.length→eQ a.length ys' (a++(ys++z))=a++(ys'++z)
  | [],[],a,z,_=>by simp [eQ]
  | y::ys,M4::ys',a,z,h=>by
    have:=HB ys ys' (a++[M4]) z fD;rw [length_append,append_assoc,append_assoc] at this;rw [eQ,List.set_append_right _ _ (Nat.le_refl _),sub_self];exact this
theorem M5 {sz:Nat} {cs:List af} {xss:List (List af)} {n j:Nat} {ys ys':List af} (b':∀ c∈xss,c.length=sz) (ab:cs.take (n*sz)=xss.flatten) (aK:xss[j]? = some ys) (aB:ys'.length=sz) :
  (eQ (j*sz) ys' cs).length=cs.length∧(eQ (j*sz) ys' cs).take (n*sz)=(xss.set j ys').flatten:=by
 obtain ⟨a,z,ad,al,bd⟩:=DE b' aK;have h5:=b' ys (mem_of_getElem? aK);have aC:cs=a++(ys++(z++cs.drop (n*sz))):=by
  conv=>lhs;rw [← take_append_drop (n*sz) cs,ab,ad]
  simp
 have hlen:(xss.flatten).length≤n*sz:=by rw [← ab,length_take];omega
 have bD:eQ (j*sz) ys' cs=a++(ys'++(z++cs.drop (n*sz))):=by
  conv=>lhs;rw [aC,← al]
  exact HB ys ys' a _ ag
 refine ⟨by rw [bD];(conv=>rhs;rw [aC]);simp;omega,?_⟩;rw [bD,bd];by_cases ax:cs.length≤n*sz
 ·rw [List.drop_eq_nil_of_le ax,append_nil,take_of_length_le]
  have:(a++(ys'++z)).length=(a++(ys++z)).length:=by simp;omega
  rw [this,← ad];exact hlen
 ·have gj:(xss.flatten).length=n*sz:=by rw [← ab,length_take];omega
  have ib:(a++(ys'++z)).length=n*sz:=by rw [← gj,ad];simp;omega
  rw [show a++(ys'++(z++cs.drop (n*sz)))=(a++(ys'++z))++cs.drop (n*sz) by simp,List.take_append_of_le_length ag,take_of_length_le ag]
theorem dw.A2 {B:fL} {ro:Option Nat} {a:Act} {w:World} {p:bR} (h:dw N B ro env s a w p) {kb b n cap sz i:Nat} {T wP:TypeId} {cells cs:List af} {xss:List (List af)} (cP:kb≠b) (jY:s kb=some (.box T cells)) (aC:cells[i]? = some (eo b n cap)) (ar:s b=some (.box wP cs)) (ab:cs.take (n*sz)=xss.flatten) (fc:xss.length=n)
  (b':∀ c∈xss,c.length=sz) (az:n≤cap) (hm:n≤9223372036854775807):∃ bj,dw N B ro env ((s.del b).set kb (.box T (cells.set i (.aA sz (xss.map af.agg) .bb)))) a w bj∧dc w p w bj∧Kept s ((s.del b).set kb (.box T (cells.set i (.aA sz (xss.map af.agg) .bb)))) w p w bj:=by
 obtain ⟨vs,U,ad,al⟩:=h.wf.obj _ _ ar;have au:b<w.heap.size:=(Array.getElem?_eq_some_iff.1 U).1;have hle:dc w p w (p.ee b True):=⟨rfl,rfl,rfl,Nat.le_refl _,fun _ _ h => .inl h,fun _ _ _=>rfl,fun _ _ h=>h⟩;have df:∀ v,Rel w p v (eo b n cap)→Rel w (p.ee b True) v (.aA sz (xss.map af.agg) .bb):=by
  intro v aF;cases aF;have hA:=ad.take (n*sz);rw [ab] at hA;obtain ⟨us,cg,bY,eR⟩:=FQ hA b';refine .aA b 0 n cap sz us (xss.map af.agg) .bb a' (by rw [length_map,fc]) ?_ (cg.mono hle) eR hm az (fun h=>by cases h) (fun b h=>by cases h);rw [bY];intro i v aQ;refine ⟨.inr ⟨rfl,trivial⟩,?_⟩;rw [zero_add,jB U];rw [getElem?_take] at aQ;split at aQ
  ·simpa using aQ
  ·cases aQ
 have aE:Kept s ((s.del b).set kb (.box T (cells.set i (.aA sz (xss.map af.agg) .bb)))) w p w (p.ee b True):=⟨fun _ _ _=>rfl,fun aW aq fX=>by
  have bd:aW≠kb:=fun e=>by subst e;rw [jY] at fX;cases fX
  rw [ao.fx _ _ bd]
  by_cases e:aW=b
  ·subst e;exact ao.m6 _ _
  ·rw [ao.mv _ e];exact fX,fun aW o aq fX aD=>by
   rcases aD with aD|⟨rfl,_⟩
   ·exact aD
   ·rw [ar] at fX;cases fX⟩
 have cc:dm w (p.ee b True) ((s.del b).set kb (.box T (cells.set i (.aA sz (xss.map af.agg) .bb)))):=by
  refine ⟨fun aW o aq=>?_,fun aW o aD=>by rcases aD with aD|⟨rfl,_⟩;exact h.wf.lt _ _ aD;exact au⟩;have e6:aW≠b→∀ o,p.ee b True aW o↔p aW o:=fun e o=>⟨fun aD=>by rcases aD with aD|⟨e',_⟩;exact aD;exact absurd e' e,.inl⟩
  by_cases jA:aW=kb
  ·subst jA
   rw [ao.gk] at aq;cases aq;obtain ⟨us,g1,g2,g3⟩:=h.wf.obj _ _ jY;obtain ⟨v,tN,mx⟩:=g2.get aC;have bD:=(g2.mono hle).set i (df v mx);have gj:us.toList.set i v=us.toList:=by
    apply List.ext_getElem?;intro k;rw [List.getElem?_set];split
    ·rename_i e;subst e
     split
     ·rw [tN]
     ·rename_i au;rw [List.getElem?_eq_none ag]
    ·rfl
   rw [gj] at bD;exact ⟨us,g1,bD,fun o aD=>g3 o ((e6 cP o).1 aD)⟩
  rw [ao.fx _ _ jA] at aq;by_cases e:aW=b
  ·subst e;rw [ao.m6] at aq;cases aq
  ·rw [ao.mv _ e] at aq
   have ah:=h.wf.obj aW o aq;have e6:=e6 e;cases o with
   | box t c=>obtain ⟨us,g1,g2,g3⟩:=ah;exact ⟨us,g1,g2.mono hle,fun o aD=>g3 o ((e6 o).1 aD)⟩
   | row t sz n=>obtain ⟨cur,g1,g2,g3,g4⟩:=ah;exact ⟨cur,g1,g2,g3,fun o=>(e6 o).trans (g4 o)⟩
   | map es=>obtain ⟨cN,c,g1,g2,g3⟩:=ah;exact ⟨cN,c,g1,⟨g2.1.mono hle,g2.2.mono hle⟩,g3⟩
   | k3 es it l c=>exact ah.p7 hle C C
   | tick m=>exact ah
   | loop r env=>exact ⟨ah.1,fun t v h=>(ah.2 t v h).mono hle⟩
 exact ⟨_,h.step hle aE cc,hle,aE⟩
theorem ae.A2 {c:Code} (I:Ok s L) {kb b n cap sz:Nat} (i:Nat) {T wP:TypeId} {cells cs:List af} {xss:List (List af)} {dt:a8} (U:bp L (.own kb) (.box T cells) R) (ad:bp R (.own b) (.box wP cs) dt) (aC:cells[i]? = some (eo b n cap)) (ab:cs.take (n*sz)=xss.flatten) (fc:xss.length=n) (b':∀ c∈xss,c.length=sz) (az:n≤cap) (hm:n≤9223372036854775807)
  (h:Ok s ((.own kb,.box T (cells.set i (.aA sz (xss.map af.agg) .bb)))::dt)→ae P N c Q env (aT s ((.own kb,.box T (cells.set i (.aA sz (xss.map af.agg) .bb)))::dt))):ae P N c Q env (aT s L):=by
 obtain ⟨g1,g2,g3,g4,g5⟩:=ML (o'' := .box T (cells.set i (.aA sz (xss.map af.agg) .bb))) I U ad;intro sT B a w p eU aI;obtain ⟨bj,al,bd,bD⟩:=aI.A2 g1 g2 aC g3 ab fc b' az hm;rw [g4] at al bD;exact l0 (h g5 sT B a w bj eU al) fun _ _ _ q=>q.after bd bD
end
end Go.cU
namespace Go.Proofs.YtnafpeohfbglmaaGreat
open Go.cU Go.eb
abbrev yr:=Option (Nat×Nat×List af)
def qX:yr→List ak→af
 | none,_ => .aA 0 [] .nil
 | some (g,cap,_),l=>eo g l.length cap
def pV:yr→a8
 | none=>[]
 | some (g,_,cs)=>[(.own g,.box 58 cs)]
def HC:yr→List ak→Prop
 | none,l=>l=[]
 | some (_,cap,cs),l=>cs.length=cap*6∧l.length≤cap∧cs.take (l.length*6)=(l.map ak.cells).flatten
theorem HD (l:List ak):∀ c∈l.map ak.cells,c.length=6:=fun c aC=>by obtain ⟨x,-,rfl⟩:=mem_map.1 aC;rfl
def ob (cB:Nat) (f:ak):bL×dC:=(.own cB,.box 58 f.cells)
theorem WG (cB:Nat) (x f:ak) (ab:x.path.length<bz) (a6:f.path.length<bz):dp Tryz.prog (.func 103 [] [.ptr cB 0]) [x.bK] [ob cB f] (fun o K=>o = .ret (.bool (fs x f))∧K=[ob cB f]):=by
 have U:=Lq x f ab a6;have U:aR Tryz.prog 104 [x.bK,f.bK] (.bool (fs x f)):=U;refine dp.fk (first:=[]) (cap:=[.ptr cB 0]) ?_;refine bE.bh ai Tryz.func103 C C fun s I=>?_
 unfold ob at I ⊢;rw [ak.bX,ak.bX] at U;rw [ak.bX];unfold ak.cells at *;refine hh I ?_;intro I;exact Fin.bu I C aL (aH.all _) ⟨rfl,rfl⟩
theorem WH (g cap:Nat) (cs:List af) (l:List ak) (aB:l.length<bz) (U:cs.length=cap*6) (ad:l.length≤cap) (al:cs.take (l.length*6)=(l.map ak.cells).flatten) (cB:Nat) (f:ak) (a6:f.path.length<bz) (aD:∀ x∈l,x.path.length<bz) :
  bE Tryz.prog 150 [eo g l.length cap,.func 103 [] [.ptr cB 0]] [(.own g,.box 58 cs),ob cB f]
   (fun o K=>o = .ret (.int .i64 (match l.findIdx? (fun x=>fs x f) with
    | some i=>(i:Int)
    | none => -1))∧K=[(.own g,.box 58 cs),ob cB f]):=by
 have aq:=bA;refine bE.bh ai Tryz.func150 C C fun s I=>?_
 unfold ob at I ⊢;refine dv ?_;refine aa.qu ai C C C C C C C ?_;refine dF ?_;refine ae.b4 [0,1,7] C I (σ:=Nat) (fun j=>[(8,.int .i64 (j:Int))]) (fun _=>[(.own g,.box 58 cs),ob cB f]) (fun j=>j≤l.length∧∀ i x,i<j→l[i]? = some x→fs x f=false) (fun j=>l.length-j) 0 ⟨zero_le _,fun i x aQ=>absurd aQ (not_lt_zero _)⟩ (cq C) (aH.all _) ?_;rintro j ⟨aK,an⟩ I;unfold ob at I ⊢;refine b7 ?_;refine ae.cond C (fun au=>?_) (fun aV=>?_);rotate_left
 ·have aV:j=l.length:=by simp at aV;omega
  have ab:l.findIdx? (fun x=>fs x f)=none:=by
   rw [findIdx?_eq_none_iff];intro z bO;obtain ⟨i,aQ⟩:=List.getElem?_of_mem bO;have U:=qB aQ;exact an i z ag aQ
  rw [ab];refine dN ?_;exact Fin.bu I C aL (aH.all _) ⟨rfl,rfl⟩
 have au:j<l.length:=by simpa using au
 obtain ⟨y,ay⟩:∃ y,l[j]? = some y:=⟨_,getElem?_eq_getElem au⟩;have cZ:=WG cB y f (aD y (mem_of_getElem? ay)) a6;rw [ak.bX] at cZ;unfold ob at cZ;refine bC ?_;refine aa.fi ai j C C C C C C C C C C au ?_;refine aa.eB ai I C C C C C C .here (M3 C (HD l) al (by rw [getElem?_map,ay];rfl)) ?_;skip;refine aa.gH rfl rfl rfl rfl rfl rfl cZ I aX ?_ (fun _ _ ⟨h,_⟩ _=>by cases h);rintro _ _ ⟨⟨⟩,rfl⟩ I;rw [cons_append,nil_append] at I ⊢;cases az:fs y f with
 | true=>
  have ab:l.findIdx? (fun x=>fs x f)=some j:=by
   rw [List.findIdx?_eq_some_iff_getElem];refine ⟨au,by rw [(List.getElem?_eq_some_iff.1 ay).2];exact az,fun i aQ=>?_⟩;have:=an i l[i] aQ (getElem?_eq_getElem ag);simpa using this
  rw [ab];refine e1 ?_;exact Fin.bu I C aL (.cons (.there .here) (.cons .here .nil)) ⟨rfl,rfl⟩
 | false=>
  refine bC ?_;refine bn.mk (j+1) I ⟨au,fun i x aQ ab=>?_⟩ ca (.cons (.there .here) (.cons .here .nil)) mO;rcases Nat.lt_succ_iff_lt_or_eq.1 aQ with aQ|rfl
  ·exact an i x aQ ab
  ·rw [ay] at ab;cases ab;exact az
theorem WI {α:Type} (q:α→Bool) (l:List α):(decide ((match l.findIdx? q with
  | some i=>(i:Int)
  | none => -1)≥0))=l.any q:=by
 cases h:l.findIdx? q with
 | none=>
  rw [findIdx?_eq_none_iff] at h;have:l.any q=false:=by rw [List.any_eq_false];intro x ab;rw [h x ab];simp
  rw [this];rfl
 | some i=>
  rw [List.findIdx?_eq_some_iff_getElem] at h;obtain ⟨U,ad,-⟩:=h;have:l.any q=true:=List.any_eq_true.2 ⟨_,getElem_mem U,ad⟩;rw [this];simp
theorem WJ (bB:yr) (l:List ak) (aB:l.length<bz) (ar:HC bB l) (cB:Nat) (f:ak) (a6:f.path.length<bz) (aD:∀ x∈l,x.path.length<bz) :
  bE Tryz.prog 102 [qX bB l,.func 103 [] [.ptr cB 0]] (pV bB++[ob cB f]) (fun o K=>o = .ret (.bool (l.any fun x=>fs x f))∧K=pV bB++[ob cB f]):=by
 cases bB with
 | none=>
  have:l=[]:=ar;subst this;have h:=Gi (.func 103 [] [.ptr cB 0]) [] (fun _=>[ob cB f]) (fun _=>false) dZ (fun j x h=>by cases h);refine bE.mono (bE.args (show cR [.aA 0 [] .nil,.func 103 [] [.ptr cB 0]] [.aA 6 ([].map ak.bK) .bb,.func 103 [] [.ptr cB 0]] from .cons aS.empty (.one aL)) h) ?_;rintro o K (⟨rfl,rfl,-⟩|⟨j,h,-⟩)
  ·exact ⟨rfl,rfl⟩
  ·exact absurd h (not_lt_zero _)
 | some q=>
  obtain ⟨g,cap,cs⟩:=q;obtain ⟨U,ad,al⟩:=ar;rw [← WI];have h:=WH g cap cs l aB U ad al cB f a6 aD;show bE Tryz.prog 102 [eo g l.length cap,.func 103 [] [.ptr cB 0]] [(.own g,.box 58 cs),ob cB f] _;refine bE.bh ai Tryz.func102 C C fun s I=>?_
  refine dv ?_;refine aa.b3 rfl rfl rfl rfl rfl h I (aH.all _) ?_ (fun _ _ ⟨h,_⟩ _=>by cases h);rintro _ _ ⟨⟨⟩,rfl⟩ I;rw [append_nil] at I ⊢;refine eu ?_;exact Fin.bu I C aL (aH.all _) ⟨rfl,rfl⟩
end Go.Proofs.YtnafpeohfbglmaaGreat
namespace Go.eb
open Go.Proofs.YtnafpeohfbglmaaGreat
theorem DF (i:Nat):∀ vs:List Nat,(gq i vs).length+(gr i vs).length=vs.length
  | []=>rfl
  | v::r=>by
    have:=DF i r;unfold gq gr at *;cases h:v.testBit i<;>simp [filter_cons,h]<;>omega
theorem DG {i:Nat} {vs:List Nat} (h:((gq i vs).isEmpty||(gr i vs).isEmpty)=false):(gq i vs).length<vs.length∧(gr i vs).length<vs.length:=by
 have:=DF i vs;rw [Bool.or_eq_false_iff] at h;have U:(gq i vs).length≠0:=by intro az;rw [List.isEmpty_iff_length_eq_zero.2 az] at h;simp at h
 have ad:(gr i vs).length≠0:=by intro az;rw [List.isEmpty_iff_length_eq_zero.2 az] at h;simp at h
 omega
theorem WK {g g':List Nat→cr} {vs:List Nat} (h:∀ l:List Nat,l.length<vs.length→g l=g' l) (out:Option cr) (i:Nat):lW g vs out i=lW g' vs out i:=by
 unfold lW;cases he:(gq i vs).isEmpty||(gr i vs).isEmpty with
 | true=>rfl
 | false=>
  have:=DG he;rw [if_neg a',if_neg a',h _ this.1,h _ this.2]
theorem HE {g g':List Nat→cr} {vs:List Nat} (h:∀ l:List Nat,l.length<vs.length→g l=g' l):∀ (is:List Nat) (out:Option cr),is.foldl (lW g vs) out=is.foldl (lW g' vs) out
 | [],_=>rfl
 | i::r,out=>by rw [foldl_cons,foldl_cons,WK h,HE h r]
theorem HF (A:Nat) (h:Nat→List Int):∀ (f mD:Nat) (vs:List Nat),vs.length≤f→vs.length≤mD→mV A h f vs=mV A h mD vs
  | 0,mD,vs,U,_=>by
    have:vs=[]:=List.length_eq_zero_iff.1 ag;subst this;cases mD with
    | zero=>rfl
    | succ mD=>rw [mV,mV,qW,if_pos C]
  | f+1,0,vs,_,ad=>by
    have:vs=[]:=List.length_eq_zero_iff.1 ag;subst this;rw [mV,mV,qW,if_pos C]
  | f+1,mD+1,vs,U,ad=>by
    rw [mV,mV,HE (g:=mV A h f) (g':=mV A h mD) (fun l aB=>HF A h f mD l ag ag)]
def gO (A:Nat) (h:Nat→List Int) (vs:List Nat):cr:=mV A h vs.length vs
theorem HG (A:Nat) (h:Nat→List Int) (vs:List Nat):gO A h vs=if qW h vs then .leaf (firstM h vs) else ((range A).foldl (lW (gO A h) vs) none).getD (.leaf []):=by
 have e:gO A h vs=mV A h (vs.length+1) vs:=HF A h _ _ vs (Nat.le_refl _) (Nat.le_succ _);rw [e,mV,HE (g:=mV A h vs.length) (g':=gO A h) (fun l aB=>HF A h _ _ l ag (Nat.le_refl _))]
theorem WL (p:bP) (gen:Int):Hx p gen=gO (cK p gen).length (ds p gen (cK p gen)) (ik (b9 p) (cK p gen)):=rfl
theorem cr.qY:∀ t:cr,1≤t.leaves
 | .leaf _=>Nat.le_refl 1
 | .test _ a b=>by have:=a.qY;have:=b.qY;rw [cr.leaves];omega
theorem cr.DH:∀ t:cr,t.lf<t.leaves
  | .leaf _=>Nat.one_pos
  | .test _ a b=>by
    have:=a.DH;have:=b.DH;have:=a.qY;have:=b.qY;rw [cr.lf,cr.leaves];omega
theorem WM {Pr:cr→Prop} {out:Option cr} {t:cr} (U:∀ o,out=some o→Pr o) (ad:Pr t):∀ o,wY out t=some o→Pr o:=by
 intro o h;unfold wY at h;cases out with
 | none=>cases h;exact ad
 | some x=>
  simp only at h;split at h
  ·cases h;exact ad
  ·cases h;exact U _ C
theorem WN {Pr:cr→Prop} {g:List Nat→cr} {vs:List Nat} {out:Option cr} {i:Nat} (U:∀ o,out=some o→Pr o) (ad:((gq i vs).isEmpty||(gr i vs).isEmpty)=false→Pr (.test i (g (gr i vs)) (g (gq i vs)))):∀ o,lW g vs out i=some o→Pr o:=by
 unfold lW;cases he:(gq i vs).isEmpty||(gr i vs).isEmpty with
 | true=>rw [if_pos C];exact U
 | false=>rw [if_neg a'];exact WM U (ad he)
theorem M6 {Pr:cr→Prop} {g:List Nat→cr} {vs:List Nat}:∀ (is:List Nat) (out:Option cr),(∀ o,out=some o→Pr o)→(∀ i∈is,((gq i vs).isEmpty||(gr i vs).isEmpty)=false→Pr (.test i (g (gr i vs)) (g (gq i vs))))→∀ o,is.foldl (lW g vs) out=some o→Pr o
  | [],_,U,_=>U
  | i::r,out,U,ad=>by
    rw [foldl_cons];exact M6 r _ (WN U (ad i mem_cons_self)) (fun j aK=>ad j (mem_cons_of_mem _ aK))
theorem M7 {Pr:cr→Prop} {g:List Nat→cr} {vs:List Nat} {is:List Nat} {out:Option cr} {d:cr} (ax:Pr d) (U:∀ o,out=some o→Pr o) (ad:∀ i∈is,((gq i vs).isEmpty||(gr i vs).isEmpty)=false→Pr (.test i (g (gr i vs)) (g (gq i vs)))):Pr ((is.foldl (lW g vs) out).getD d):=by
 cases h:is.foldl (lW g vs) out with
 | none=>exact ax
 | some o=>exact M6 is out U ad o h
theorem A3 (A:Nat) (h:Nat→List Int):∀ (n:Nat) (vs:List Nat),vs.length≤n→(gO A h vs).leaves≤max 1 vs.length
  | n,vs,az=>by
    rw [HG];split
    · rw [cr.leaves];omega
    · refine M7 (Pr:=fun t=>t.leaves≤max 1 vs.length) (by rw [cr.leaves];omega) (fun _ h=>by cases h) (fun i _ he=>?_)
      have aB:=DG he;have ay:=DF i vs;cases n with
      | zero=>omega
      | succ n=>
        have U:=A3 A h n (gr i vs) ag;have ad:=A3 A h n (gq i vs) ag;rw [cr.leaves];omega
theorem WO (out:Option cr) (t:cr):∃ o,wY out t=some o:=by
 unfold wY;cases out with
 | none=>exact ⟨_,rfl⟩
 | some o=>simp only;split<;>exact ⟨_,rfl⟩
theorem M8 {g:List Nat→cr} {vs:List Nat}:∀ (is:List Nat) (out:Option cr),(out≠none∨∃ i∈is,((gq i vs).isEmpty||(gr i vs).isEmpty)=false)→∃ o,is.foldl (lW g vs) out=some o
  | [],out,h=>by
    rcases h with h|⟨i,aQ,_⟩
    · cases out with
      | none=>exact absurd C h
      | some o=>exact ⟨o,rfl⟩
    · cases aQ
  | i::r,out,h=>by
    rw [foldl_cons];refine M8 r _ ?_;unfold lW;cases he:(gq i vs).isEmpty||(gr i vs).isEmpty with
    | true=>
      rw [if_pos C];rcases h with h|⟨j,aK,h⟩
      · exact .inl h
      · rcases mem_cons.1 aK with rfl|aK
        · rw [he] at h;cases h
        · exact .inr ⟨j,aK,h⟩
    | false=>
      rw [if_neg a'];obtain ⟨o,ah⟩:=WO out (.test i (g (gr i vs)) (g (gq i vs)));exact .inl (by rw [ah];simp)
theorem DI {α:Type} {l:List α} {x:α} (h:x∈l):l.isEmpty=false:=by cases l with|nil=>cases h|cons=>rfl
theorem WQ {A u v:Nat} {vs:List Nat} (hu:u∈vs) (av:v∈vs) (U:u<2^A) (ad:v<2^A) (cP:u≠v):∃ i∈range A,((gq i vs).isEmpty||(gr i vs).isEmpty)=false:=by
 have hex:∃ i,u.testBit i≠v.testBit i:=Classical.byContradiction fun az=>cP (Nat.eq_of_testBit_eq fun i=>Classical.byContradiction fun h=>az ⟨i,h⟩)
 obtain ⟨i,aQ⟩:=hex
 have WR:i<A:=Nat.lt_of_not_le fun aV=>aQ (by
  rw [Nat.testBit_lt_two_pow (Nat.lt_of_lt_of_le U (Nat.pow_le_pow_right ag aV)),Nat.testBit_lt_two_pow (Nat.lt_of_lt_of_le ad (Nat.pow_le_pow_right ag aV))])
 refine ⟨i,List.mem_range.2 WR,?_⟩;rw [Bool.or_eq_false_iff];cases aq:u.testBit i with
 | true=>
  have lb:v.testBit i=false:=by cases h:v.testBit i with|false=>rfl|true=>exact absurd (aq.trans h.symm) aQ
  exact ⟨DI (mem_filter.2 ⟨hu,aq⟩),DI (mem_filter.2 ⟨av,by rw [lb];rfl⟩)⟩
 | false=>
  have lb:v.testBit i=true:=by cases h:v.testBit i with|true=>rfl|false=>exact absurd (aq.trans h.symm) aQ
  exact ⟨DI (mem_filter.2 ⟨av,lb⟩),DI (mem_filter.2 ⟨hu,by rw [aq];rfl⟩)⟩
theorem WS {h:Nat→List Int}:∀ {vs:List Nat},qW h vs=false→∃ u∈vs,∃ v∈vs,u≠v
  | v::r,a6=>by
    rw [qW] at a6;have:=List.all_eq_false.1 a6;obtain ⟨u,hu,cP⟩:=this;exact ⟨u,mem_cons_of_mem _ hu,v,mem_cons_self,by rintro rfl;simp at cP⟩
theorem WT {A:Nat} {h:Nat→List Int} {vs:List Nat} (vO:∀ v∈vs,v<2^A) (a6:qW h vs=false) (g:List Nat→cr):∃ o,(range A).foldl (lW g vs) none=some o:=by
 obtain ⟨u,hu,v,av,cP⟩:=WS a6;exact M8 _ _ (.inr (WQ hu av (vO u hu) (vO v av) cP))
end Go.eb
namespace Go.cU
section
variable {P:Program} {Γ:cw} {N:Nat} {env:Env} {s:ao} {ops:Array Oper} {rest:List Oper} {Q:b8→Env→ao→Prop} {L R:a8}
theorem dw.qZ {B:fL} {ro:Option Nat} {a:Act} {w:World} {p:bR} (h:dw N B ro env s a w p) {kb:Nat} {T:TypeId} {cells r1:List af} (jY:s kb=some (.box T cells)) (hle:cR cells r1) :
  dw N B ro env (s.set kb (.box T r1)) a w p∧Kept s (s.set kb (.box T r1)) w p w p:=by
 have aE:Kept s (s.set kb (.box T r1)) w p w p:=⟨fun _ _ _=>rfl,fun aW aq fX=>by
  have bd:aW≠kb:=fun e=>by subst e;rw [jY] at fX;cases fX
  rw [ao.fx _ _ bd];exact fX,fun aW o aq fX aD=>aD⟩
 have cc:dm w p (s.set kb (.box T r1)):=by
  refine ⟨fun aW o aq=>?_,h.wf.lt⟩;by_cases jA:aW=kb
  ·subst jA
   rw [ao.gk] at aq;cases aq;obtain ⟨us,g1,g2,g3⟩:=h.wf.obj _ _ jY;exact ⟨us,g1,hle.rel g2,g3⟩
  ·rw [ao.fx _ _ jA] at aq
   exact h.wf.obj aW o aq
 exact ⟨h.step (.refl w p) aE cc,aE⟩
theorem ae.qZ {c:Code} (I:Ok s L) {kb:Nat} {T:TypeId} {cells:List af} (r1:List af) (U:bp L (.own kb) (.box T cells) R) (hle:cR cells r1)
  (h:Ok s ((.own kb,.box T r1)::R)→ae P N c Q env (aT s ((.own kb,.box T r1)::R))):ae P N c Q env (aT s L):=by
 obtain ⟨g1,g2⟩:=U.put (.box T r1) I;intro sT B a w p eU aI;obtain ⟨al,bD⟩:=aI.qZ (U.get I) hle;rw [g1] at al bD;exact l0 (h g2 sT B a w p eU al) fun _ _ _ q=>q.after (.refl w p) bD
end
section
variable {P:Program} {Γ:cw} {N:Nat} {ops:Array Oper} {Q:b8→Env→ao→Prop} {env:Env} {s:ao} {l:List Oper} {o:Oper} {d:Nat}
theorem aZ.DJ (aP:bQ P Γ) {t e:TypeId} {v:Value} {it aG:bM} {x:af} (ah:o.op = .buildSlice t 1 #[(0,.const v)]) (aM:Γ.get? t=some it) (br:it.bF = .aA e) (he:Γ.get? e=some aG) (B3:Nat.ble (1*aG.size) 16777216=true) (aC:hx v=some x) (b':Nat.beq v.cells.size aG.size=true) :
  aZ P N o env s (fun r aj=>r = .aA aG.size [x] .clip∧aj=s) (fun _ _=>False):=by
 refine aZ.m3 i' fun ro B a w p aI=>?_
 obtain ⟨info,d,U,ad,al,-⟩:=aP.parts aM;obtain ⟨mq,c3,nD,nE,ve,m2,Jf,B2⟩:=aP.parts he;have ax:d = .slice e:=by rw [br] at al;cases d<;>simp [ev] at al;rw [al]
 subst ax;have ar:=Nat.eq_of_beq_eq_true b';have hm:=Nat.le_of_ble_eq_true B3;have bY:bG w p [v] [x] := .cons _ _ _ _ (p' aC) .nil;have eR:∀ u∈[v],u.cells.size=aG.size:=fun u hu=>by rw [mem_singleton.1 hu];exact ar
 have kh:(flat [v]).length=1*aG.size:=by simp [flat,ar]
 have sr:∀ ss:Array Value,ss.size=1*aG.size→Instr.fill (fun i=>some (i*aG.size,aG.size)) ss ((#[(0,Operand.const v)]:Array (Nat×Operand)).map fun x=>(x.1,a.eval x.2)).toList=some (flat [v]).toArray:=by
  intro ss ot;have:=Ja aG.size [v] 0 [] ss.toList a' (by rw [length_toList,ot];rfl) eR;simp only [nil_append] at this;simpa [Act.eval] using this
 refine gQ.alloc (flat [v]).toArray e aI.wf.lt (val := .slice (some ⟨w.heap.size,0,none⟩) 1 1) ?_ ?_
 ·unfold execOp
  rw [ah];refine gR ?_;have pb:¬ (1*aG.size>2^24):=by omega
  unfold Instr.buildSlice;simp only [Sem.run_bind,run_underlying ad,Result.andThen_ok,sizeOf,typeInfo,run_program,nD,Sem.run_pure,m2,if_neg pb];by_cases bt:1*aG.size=0
  ·rw [if_pos bt,Sem.run_bind,Sem.run_pure,Result.andThen_ok,sr _ a']
   rfl
  ·rw [if_neg bt]
   simp only [zeroValue,typeInfo,Sem.run_bind,run_program,nD,B2,Sem.run_pure,Result.andThen_ok];rw [sr _ a'];rfl
 ·refine .aA _ 0 _ _ _ [v] _ _ a' rfl ?_ (bY.mono (tG aI.wf.lt _ _)) eR ?_ (Nat.le_refl _) (fun _=>rfl) (fun b aq=>by cases aq)
  ·exact EI (w:=w) (p:=p) (flat [v]) e
  ·omega
theorem aa.DJ (aP:bQ P Γ) {t e:TypeId} {v:Value} {it aG:bM} {x:af} (aw:guardOf ops env o=some true) (ax:o.dst=some d) (aU:Nat.blt d N=true) (ah:o.op = .buildSlice t 1 #[(0,.const v)]) (aM:Γ.get? t=some it) (br:it.bF = .aA e) (he:Γ.get? e=some aG) (B3:Nat.ble (1*aG.size) 16777216=true) (aC:hx v=some x) (b':Nat.beq v.cells.size aG.size=true)
  (h:aa P N ops l Q ((d,.aA aG.size [x] .clip)::env) s):aa P N ops (o::l) Q env s:=
 aa.op aw ax aU (aZ.DJ aP ah aM br he B3 aC b') (fun x aj ⟨U,ad⟩=>by subst U;subst ad;exact h) (fun _ _ h=>h.elim)
end
section
variable {P:Program} {Γ:cw} {N:Nat} {l:List Oper} {i:Nat} {rest:List Oper} {Q:b8→Env→ao→Prop} {env:Env} {s:ao} {o:Oper} {d:Nat}
theorem aN.wZ {L R K:a8} {acs:ey→a8→Prop} {b:Nat} {dD:dC} {f:FuncId} {fN:Array Operand} {c6:Array TypeId} {xs:List af} (aw:c7 l env o) (ax:o.dst=some d) (aU:Nat.blt d N=true) (aF:eE l.toArray (2^i-1) (idxs 0 l)=[i])
  (b2:o.op = .call { callee := .value (.func f),args:=fN,argTypes:=c6 }) (a7:fM (bZ l env o) fN.toList=some xs) (h:bE P f xs K acs) (I:Ok s L) (ar:aH L K R)
  (aK:∀ x aO,acs (.ret x) aO→∃ dt,bp (aO++R) (.own b) dD dt)
  (aE:∀ x aO,acs (.ret x) aO→Ok s (aO++R)→aN (fun aj=>aj b=some dD) P Γ N l (i+1) rest Q ((d,x)::env) (aT s (aO++R))) (ab:∀ x aO,acs (.panic x) aO→Ok s (aO++R)→Q (.panic x) [] (aT s (aO++R))):aN (fun aj=>aj b=some dD) P Γ N l i (o::rest) Q env (aT s L):=
 aN.x0 aw ax aU aF (aZ.b3 b2 a7 h I ar) (fun x aj ⟨aO,U,ad,al⟩=>by subst U;obtain ⟨dt,hz⟩:=aK x aO al;exact hz.get ad) (fun x aj ⟨aO,U,ad,al⟩=>by subst U;exact aE x aO al ad) (fun x aj ⟨aO,U,ad,al⟩=>by subst U;exact ab x aO al ad)
end
section
variable {P:Program} {N:Nat} {ops:Array Oper} {Q:b8→Env→ao→Prop} {env:Env} {s:ao} {l:List Oper} {o:Oper} {d:Nat}
theorem aa.rI {g:Operand} {name:String} {fN:Array Operand} {c6:Array TypeId} {t:TypeId} {v:af} {f:FuncId} {xs:List af} {r:af} (aw:guardOf ops env o=some true) (ax:o.dst=some d) (aU:Nat.blt d N=true)
  (ah:o.op = .call { callee := .invoke g name,args:=fN,argTypes:=c6 }) (av:aJ env g=some (.iface t v)) (a7:fM env fN.toList=some xs) (hm:pj P t name f) (h:aR P f (v::xs) r)
  (aE:aa P N ops l Q ((d,r)::env) s):aa P N ops (o::l) Q env s:=
 aa.invoke aw ax aU ah av a7 hm (h s) (fun x aj ⟨U,ad⟩=>by cases U;subst ad;exact aE) (fun x aj ⟨U,_⟩=>by cases U)
end
section
variable {P:Program} {Γ:cw} {N:Nat} {l:List Oper} {i:Nat} {rest:List Oper} {Q:b8→Env→ao→Prop} {env:Env} {s:ao} {o:Oper} {d:Nat} {L R:a8}
theorem aN.jr (aP:bQ P Γ) (I:Ok s L) {t dQ eV:TypeId} {x y:Operand} {ok:Bool} {it gG aG:bM} {m:Nat} {es:List (af×af)} {k z:af} {r:Option af} (aw:c7 l env o) (ax:o.dst=some d) (aU:Nat.blt d N=true)
  (ah:o.op = .lookup t x y ok) (aM:Γ.get? t=some it) (br:it.bF = .map dQ eV) (jk:Γ.get? dQ=some gG) (bI:Γ.get? eV=some aG) (ab:aJ (bZ l env o) x=some (.map m)) (ay:aJ (bZ l env o) y=some k) (ar:bp L (.own m) (.map es) R)
  (a6:j3 gG.bF k=true) (aF:iV es k=some r) (bO:hx aG.zero=some z) (h:aN (fun aj=>aj=aT s L) P Γ N l (i+1) rest Q ((d,lB ok z r)::env) (aT s L)):aN (fun aj=>aj=aT s L) P Γ N l i (o::rest) Q env (aT s L):=
 aN.calm aw ax aU (fun _ e=>by subst e;exact aZ.jr aP I ah aM br jk bI ab ay ar a6 aF bO) h
end
section
variable {J:ao→Prop} {P:Program} {Γ:cw} {N:Nat} {l:List Oper} {i:Nat} {Q:b8→Env→ao→Prop} {env:Env} {s:ao} {o:Oper} {L R:a8}
theorem aN.mE (aP:bQ P Γ) (I:Ok s L) {t dQ eV:TypeId} {x y z:Operand} {it gG:bM} {b:Nat} {es:List (af×af)} (du:List (af×af)) {k v:af} (aw:c7 l env o) (ax:o.dst=none) (lP:ko l.toArray i=true)
  (b2:o.op = .mapUpdate t x y z∨o.op = .insert t x y z) (aM:Γ.get? t=some it) (br:it.bF = .map dQ eV) (jk:Γ.get? dQ=some gG) (ab:aJ (bZ l env o) x=some (.map b)) (ay:aJ (bZ l env o) y=some k) (bO:aJ (bZ l env o) z=some v)
  (ar:bp L (.own b) (.map es) R) (a6:j3 gG.bF k=true) (aD:lA es k v=some du)
  (h:Ok s ((.own b,.map du)::R)→Q .normal env (aT s ((.own b,.map du)::R))):aN J P Γ N l i [o] Q env (aT s L):=
 aN.Gp aw ax lP (aZ.mE aP I b2 aM br jk ab ay bO ar a6 aD (X:=fun _ _=>False)) (fun x aj ⟨U,ad⟩=>by subst U;exact h ad) (fun _ _ h=>h.elim)
end
end Go.cU
namespace Go.Proofs.YtnafpeohfbglmaaGreat
open Go.cU Go.eb
def kZ:cr→af
 | .leaf ms => .iface 154 (.agg [bf ms])
 | .test i a b => .iface 156 (.agg [.int .i64 (i:Int),kZ a,kZ b])
theorem WU:pj Tryz.prog 154 "consort/tree.size" 333 := Cy fY
theorem WV:pj Tryz.prog 156 "consort/tree.size" 334 := Cy fY
theorem WW (ms:List Int):aR Tryz.prog 333 [.agg [bf ms]] (.cp [.int .i64 0,.int .i64 1]):=by
 have aq:=bA;refine aR.bh ai Tryz.func333 C C fun s I=>?_
 unfold bf;refine gv ?_;exact bl I
theorem tk:∀ t:cr,∃ ty v f,kZ t = .iface ty v∧pj Tryz.prog ty "consort/tree.size" f∧(t.leaves<2^40→aR Tryz.prog f [v] (.cp [.int .i64 (t.lf:Int),.int .i64 (t.leaves:Int)]))
  | .leaf ms=>⟨_,_,_,rfl,WU,fun _=>WW ms⟩
  | .test i a b=>by
    obtain ⟨t1,v1,f1,cg,mP,c4⟩:=tk a;obtain ⟨t2,v2,f2,bY,ht,dd⟩:=tk b;refine ⟨_,_,_,rfl,WV,fun aB=>?_⟩;rw [cr.leaves] at aB;have c4:=c4 ag;have dd:=dd ag;have U:=a.DH;have ad:=b.DH;rw [cg,bY,cr.lf,cr.leaves];refine aR.bh ai Tryz.func334 C C fun s I=>?_
    refine dv ?_;refine aa.rI C C C C C C mP c4 ?_;refine hq ?_;refine aa.rI C C C C C C ht dd ?_;refine bC ?_;refine Fin.cx I C (aS.of_eq ?_);rw [ek (by split<;>omega) (by split<;>omega),ek ag ag];congr 3
    · congr 1
      split<;>omega
theorem WX (a b:cr) (a7:a.leaves<2^40) (dI:b.leaves<2^40):aR Tryz.prog 108 [kZ a,kZ b] (.bool (a.before b)):=by
 have aq:=bA;refine aR.bh ai Tryz.func108 C C fun s I=>?_
 obtain ⟨t1,v1,f1,cg,mP,c4⟩:=tk a;obtain ⟨t2,v2,f2,bY,ht,dd⟩:=tk b;have c4:=c4 a7;have dd:=dd dI;rw [cg,bY];unfold cr.before;refine dv ?_;refine aa.rI C C C C C C mP c4 ?_;refine hq ?_;refine aa.rI C C C C C C ht dd ?_;by_cases U:a.lf<b.lf
 ·rw [decide_eq_true U,Bool.true_or]
  refine hq ?_;refine aa.de 22 C (decide_eq_true ag) ?_;refine eh ?_;exact bl I
 ·rw [decide_eq_false U,Bool.false_or]
  refine hq ?_;refine aa.cY 22 C (decide_eq_false ag) ?_;by_cases ad:a.lf=b.lf
  ·rw [decide_eq_true ad,Bool.true_and]
   refine dy ?_;refine aa.de 26 C cG ?_;refine eu ?_;refine Fin.cx I C (aS.of_eq (congrArg af.bool ?_));rw [Bool.eq_iff_iff];simp
  ·rw [decide_eq_false ad,Bool.false_and]
   refine dy ?_;refine aa.cY 26 C cG ?_;refine eh ?_;exact bl I
end Go.Proofs.YtnafpeohfbglmaaGreat
namespace Go.cU
theorem yu {sz:Nat} {cs:List af} {xss:List (List af)} {n j k:Nat} {ys:List af} {v:af} (b':∀ c∈xss,c.length=sz) (ab:cs.take (n*sz)=xss.flatten) (aK:xss[j]? = some ys) (aE:k<sz) :
  (eQ (j*sz+k) [v] cs).length=cs.length∧(eQ (j*sz+k) [v] cs).take (n*sz)=(xss.set j (ys.set k v)).flatten:=by
 have h5:=b' ys (mem_of_getElem? aK);have h:=M5 (ys':=ys.set k v) b' ab aK (by rw [length_set];exact h5);obtain ⟨a,z,ad,al,-⟩:=DE b' aK;have aC:cs=a++(ys++(z++cs.drop (n*sz))):=by
  conv=>lhs;rw [← take_append_drop (n*sz) cs,ab,ad]
  simp
 have e:eQ (j*sz) (ys.set k v) cs=eQ (j*sz+k) [v] cs:=by
  rw [pD]
  conv=>lhs;rw [aC,← al]
  conv=>rhs;rw [aC,← al]
  rw [HB ys _ a _ (length_set ..),List.set_append_right _ _ ag,Nat.add_sub_cancel_left,List.set_append_left _ _ ag]
 rw [e] at h;exact h
theorem M9 {sz:Nat} {cs:List af} {xss:List (List af)} {n j k:Nat} {ys:List af} {v:af} (b':∀ c∈xss,c.length=sz) (ab:cs.take (n*sz)=xss.flatten) (aK:xss[j]? = some ys) (aE:ys[k]? = some v):cs[j*sz+k]? = some v:=by
 obtain ⟨a,z,ad,al,-⟩:=DE b' aK;have aC:cs=a++(ys++(z++cs.drop (n*sz))):=by
  conv=>lhs;rw [← take_append_drop (n*sz) cs,ab,ad]
  simp
 have rR:=(List.getElem?_eq_some_iff.1 aE).1;rw [aC,← al,List.getElem?_append_right ag,Nat.add_sub_cancel_left,getElem?_append_left rR];exact aE
end Go.cU
namespace Go.Proofs.YtnafpeohfbglmaaGreat
open Go.cU Go.eb
abbrev A4:=Option (Nat×Nat×List af)
def jZ:A4→List b0→af
 | none,_ => .aA 0 [] .nil
 | some (g,cap,_),l=>eo g l.length cap
def jw:A4→a8
 | none=>[]
 | some (g,_,cs)=>[(.own g,.box 69 cs)]
def yv:A4→List b0→Prop
 | none,l=>l=[]
 | some (_,cap,cs),l=>cs.length=cap*4∧l.length≤cap∧cs.take (l.length*4)=(l.map gZ).flatten
theorem o3 (l:List b0):∀ c∈l.map gZ,c.length=4:=fun c aC=>by obtain ⟨x,-,rfl⟩:=mem_map.1 aC;rfl
theorem yw (l:List b0) (x:b0):((l++[x]).map gZ).flatten=(l.map gZ).flatten++gZ x:=by simp
theorem tl:∀ (t:cr) (L:List b0),(cr.laid L t).length+1=L.length+2*t.leaves
  | .leaf ms,L=>by rw [cr.laid,cr.leaves,length_append];rfl
  | .test i a b,L=>by
    have U:=tl a (L++[⟨i,0,0,[]⟩]);have ad:=tl b (cr.laid (L++[⟨i,0,0,[]⟩]) a);rw [cr.laid,cr.leaves,length_set];rw [length_append,length_cons,length_nil] at U;omega
theorem A5:∀ (t:cr) (L:List b0) (j:Nat),j<L.length→(cr.laid L t)[j]? = L[j]?
  | .leaf ms,L,j,h=>by rw [cr.laid,getElem?_append_left h]
  | .test i a b,L,j,h=>by
    rw [cr.laid];rw [List.getElem?_set_ne ag,A5 b _ j (by have U:=tl a (L++[⟨i,0,0,[]⟩]);have ad:=a.qY;rw [length_append,length_cons,length_nil] at U;omega),A5 a _ j (by rw [length_append];omega),getElem?_append_left h]
theorem WY:∀ (t:cr) (L:List b0) (bB:A4),yv bB L→L.length+2*t.leaves<2^31 →
  bE Tryz.prog 61 [jZ bB L,kZ t] (jw bB) (fun o K=>∃ qU,yv qU (cr.laid L t)∧o = .ret (.cp [jZ qU (cr.laid L t),.int .i64 (L.length:Int)])∧K=jw qU):=by
 have nc:bz=1099511627776:=rfl;intro t
 induction t with
 | leaf ms=>
  intro L bB df bN;rw [cr.leaves] at bN;refine bE.bh ai Tryz.func61 C C fun s I=>?_
  rw [cr.laid];rcases bB with _|⟨g,cap,cs⟩
  ·have bt:L=[]:=df
   subst bt;unfold jZ jw kZ at *;refine ej ?_;refine aa.rZ ai I C C C C C C C en C C C C C C C dZ (fun dx gu f' c4 dd eZ I=>?_);refine bC ?_;exact Fin.bu I C aL (by simp only [jw];exact aX) ⟨some (dx,gu,f'),⟨c4,dd,eZ.trans (by simp;rfl)⟩,rfl,rfl⟩
  ·obtain ⟨U,ad,al⟩:=df
   unfold jZ jw kZ at *;refine dv ?_;refine aa.qu ai C C C C C C C ?_;refine ej ?_;refine aa.r0 ai I C C C C C C C en C C C C aY U ad C C C C (by show (L.length+1)*48≤_;omega) ag (fun dx gu f' c4 dd eZ I=>?_);refine bC ?_;exact Fin.bu I C (aS.of_eq (by simp [eo,jZ])) (by simp only [jw];exact aX) ⟨some (dx,gu,f'),⟨c4,uC,by rw [yw,length_append,length_cons,length_nil,← al];exact eZ⟩,rfl,rfl⟩
 | test i a b q0 A6=>
  intro L bB df bN;rw [cr.leaves] at bN;have M':=a.qY;have db:=b.qY;have WZ:=tl a (L++[⟨i,0,0,[]⟩]);have z6:=tl b (cr.laid (L++[⟨i,0,0,[]⟩]) a);have DK:(L++[(⟨i,0,0,[]⟩:b0)]).length=L.length+1:=by simp
  rw [DK] at WZ;have pc:(cr.laid (cr.laid (L++[⟨i,0,0,[]⟩]) a) b)[L.length]? = some ⟨i,0,0,[]⟩:=by
   rw [A5 b _ _ ag,A5 a _ _ ag,List.getElem?_append_right (Nat.le_refl _),sub_self];rfl
  have q0:=fun bB h=>q0 (L++[⟨i,0,0,[]⟩]) bB h ag
  have A6:=fun bB h=>A6 (cr.laid (L++[⟨i,0,0,[]⟩]) a) bB h ag
  have r2:cr.laid L (.test i a b)=(cr.laid (cr.laid (L++[⟨i,0,0,[]⟩]) a) b).set L.length ⟨i,(L.length:Int)+1,((cr.laid (L++[⟨i,0,0,[]⟩]) a).length:Int),[]⟩:=rfl;rw [r2];obtain ⟨ab8,A7,zg,vx,-,-⟩:=tk a;obtain ⟨Qz,zo,cB,HH,-,-⟩:=tk b;simp only [vx] at q0;simp only [HH] at A6;generalize eL:cr.laid (L++[⟨i,0,0,[]⟩]) a=yq at *;generalize r3:cr.laid yq b=fR at *;refine bE.bh ai Tryz.func61 C C fun s I=>?_
  rcases bB with _|⟨g,cap,cs⟩
  ·have bt:L=[]:=df
   subst bt;unfold jZ kZ;rw [vx,HH];unfold jw at I ⊢;refine ej ?_;refine aa.nK 30 (.aA 4 [.agg (gZ ⟨i,0,0,[]⟩)] .bb) C (aS.aA (.one (aS.agg (.cons aL (.cons aL (.cons aL (.one aS.empty))))))) ?_;refine aa.rZ ai I C C C C C C C en C C C C C C C dZ (fun dx gu f' c4 dd eZ I=>?_);have q0:=q0 (some (dx,gu,f')) ⟨c4,dd,eZ.trans a'⟩;simp only [jZ,DK] at q0;refine bC ?_;refine aa.b3 C C C C C q0 I (by simp only [jw];exact aX) ?_ (fun _ _ ⟨_,_,h,_⟩ _=>by cases h);rintro _ _ ⟨HI,kN,⟨⟩,rfl⟩ I;rw [append_nil] at I ⊢;refine hq ?_;refine aa.b3 rfl rfl rfl rfl rfl (A6 HI kN) I (aH.all _) ?_ (fun _ _ ⟨_,_,h,_⟩ _=>by cases h);rintro _ _ ⟨q1,kK,⟨⟩,rfl⟩ I;rw [append_nil] at I ⊢;rcases q1 with _|⟨g2,w0,W0⟩
   ·have bt:fR=[]:=kK
    rw [bt] at pc;cases pc
   obtain ⟨g1,g3,g4⟩:=kK;have jo:=yu (k:=1) (v := .int .i64 (((([]:List b0)).length+1:Nat):Int)) (o3 fR) g4 (by rw [getElem?_map,pc];rfl) ag
   have qj:=yu (k:=2) (v := .int .i64 ((yq.length:Nat):Int)) (fun c aC=>by
    rcases List.mem_or_eq_of_mem_set aC with aC|rfl
    ·exact o3 fR c aC
    ·rfl) jo.2 (List.getElem?_set_self tc) ag
   unfold jw at I ⊢;unfold jZ;refine hq ?_;refine aa.fi ai (([]:List b0)).length C C C C C C C C C C ag ?_;refine dy ?_;refine aa.jX ai I _ C C C C C C C C C aY (by rw [g1];show (([]:List b0)).length*4+1+1≤w0*4;omega) C (fun I=>?_);refine aa.fi ai (([]:List b0)).length C C C C C C C C C C ag ?_;refine dy ?_;refine aa.jX ai I _ C C C C C C C C C aY (by rw [jo.1,g1];show (([]:List b0)).length*4+2+1≤w0*4;omega) C (fun I=>?_);refine bC ?_;refine Fin.bu I C aL (by simp only [jw];exact aX) ⟨some (g2,w0,_),⟨qj.1.trans (jo.1.trans g1),(by rw [length_set];exact g3),?_⟩,?_,rfl⟩
   ·rw [length_set]
    refine qj.2.trans ?_;rw [List.set_set,map_set];rfl
   ·simp only [length_set]
    try rfl
  ·obtain ⟨U,ad,al⟩:=df
   unfold jZ kZ;rw [vx,HH];unfold jw at I ⊢;refine dv ?_;refine aa.qu ai C C C C C C C ?_;refine ej ?_;refine aa.nK 30 (.aA 4 [.agg (gZ ⟨i,0,0,[]⟩)] .bb) C (aS.aA (.one (aS.agg (.cons aL (.cons aL (.cons aL (.one aS.empty))))))) ?_;refine aa.r0 ai I C C C C C C C en C C C C aY U ad C C C C (by show (L.length+1)*48≤_;omega) ag (fun dx gu f' c4 dd eZ I=>?_);have q0:=q0 (some (dx,gu,f')) ⟨c4,uC,by rw [yw,DK,← al];exact eZ⟩;simp only [jZ,DK] at q0;refine bC ?_;refine aa.b3 C C C C C q0 I (by simp only [jw];exact aX) ?_ (fun _ _ ⟨_,_,h,_⟩ _=>by cases h);rintro _ _ ⟨HI,kN,⟨⟩,rfl⟩ I;rw [append_nil] at I ⊢;refine hq ?_;refine aa.b3 rfl rfl rfl rfl rfl (A6 HI kN) I (aH.all _) ?_ (fun _ _ ⟨_,_,h,_⟩ _=>by cases h);rintro _ _ ⟨q1,kK,⟨⟩,rfl⟩ I;rw [append_nil] at I ⊢;rcases q1 with _|⟨g2,w0,W0⟩
   ·have bt:fR=[]:=kK
    rw [bt] at pc;cases pc
   obtain ⟨g1,g3,g4⟩:=kK;have jo:=yu (k:=1) (v := .int .i64 (((L).length+1:Nat):Int)) (o3 fR) g4 (by rw [getElem?_map,pc];rfl) ag
   have qj:=yu (k:=2) (v := .int .i64 ((yq.length:Nat):Int)) (fun c aC=>by
    rcases List.mem_or_eq_of_mem_set aC with aC|rfl
    ·exact o3 fR c aC
    ·rfl) jo.2 (List.getElem?_set_self tc) ag
   unfold jw at I ⊢;unfold jZ;refine hq ?_;refine aa.fi ai (L).length C C C C C C C C C C ag ?_;refine dy ?_;refine aa.jX ai I _ C C C C C C C C C aY (by rw [g1];show (L).length*4+1+1≤w0*4;omega) C (fun I=>?_);refine aa.fi ai (L).length C C C C C C C C C C ag ?_;refine dy ?_;refine aa.jX ai I _ C C C C C C C C C aY (by rw [jo.1,g1];show (L).length*4+2+1≤w0*4;omega) C (fun I=>?_);refine bC ?_;refine Fin.bu I C aL (by simp only [jw];exact aX) ⟨some (g2,w0,_),⟨qj.1.trans (jo.1.trans g1),(by rw [length_set];exact g3),?_⟩,?_,rfl⟩
   ·rw [length_set]
    refine qj.2.trans ?_;rw [List.set_set,map_set];rfl
   ·simp only [length_set]
    try rfl
end Go.Proofs.YtnafpeohfbglmaaGreat
namespace Go.eb
theorem Na {α:Type} {f:Nat→α→Bool}:∀ {l:List α} {k j:Nat},nR f k l=some j→k≤j∧j<k+l.length∧∃ x,l[j-k]? = some x∧f j x=true
  | x::r,k,j,h=>by
    rw [nR] at h;split at h
    · rename_i acj aK
      cases h;obtain ⟨U,ad,y,al,bd⟩:=Na aK;refine ⟨by omega,by rw [length_cons];omega,y,?_,bd⟩;rw [show j-k=(j-(k+1))+1 by omega];exact al
    · split at h
      · cases h
        rename_i a6;exact ⟨Nat.le_refl _,by rw [length_cons];omega,x,by rw [sub_self];rfl,a6⟩
      · cases h
theorem yx:∀ (l:List b0) (i:Nat),(ec i l).1.length=l.length∧(ec i l).2.length=l.length
  | [],i=>⟨rfl,rfl⟩
  | x::r,i=>by
    have:=yx r (i+1);rw [ec];simp only [length_cons];omega
def W1 (n i:Nat) (l:List b0):Prop:=∀ k,k<l.length →
 ((i:Int)+k≤(ec i l).1.getD k 0∧(ec i l).1.getD k 0<n)∧((ec i l).2.getD k default).atom=(l.getD k default).atom∧((ec i l).2.getD k default).ms=(l.getD k default).ms ∧
 (((ec i l).2.getD k default).atom≥0→(i:Int)+k<((ec i l).2.getD k default).no∧((ec i l).2.getD k default).no<n∧(i:Int)+k<((ec i l).2.getD k default).yes∧((ec i l).2.getD k default).yes<n)
theorem Nb {n:Nat}:∀ (l:List b0) (i:Nat),i+l.length=n→(∀ (k:Nat) (x:b0),l[k]? = some x→x.atom≥0→((i+k:Nat):Int)<x.no∧x.no<n∧((i+k:Nat):Int)<x.yes∧x.yes<n)→W1 n i l
  | [],_,_,_=>fun k aE=>absurd aE (not_lt_zero _)
  | x::r,i,az,a6=>by
    have a1:=Nb (n:=n) r (i+1) (by rw [length_cons] at az;omega) (fun k y ay=>by
      have:=a6 (k+1) y (by simpa using ay)
      rwa [show i+(k+1)=i+1+k by omega] at this)
    have aB:=yx r (i+1);rw [length_cons] at az;have bt:=a6 0 x C;intro k aE;cases k with
    | succ k=>
      have:=a1 k (by rw [length_cons] at aE;omega);rw [ec];simp only [List.getD_cons_succ];obtain ⟨⟨dW,a2⟩,a3,a4,a5⟩:=this;refine ⟨⟨by push_cast at dW ⊢;omega,a2⟩,a3,a4,fun h=>?_⟩;obtain ⟨h3,dx,m9,n6⟩:=a5 h;exact ⟨by push_cast at h3 ⊢;omega,dx,by push_cast at m9 ⊢;omega,n6⟩
    | zero=>
      have a7:x.atom≥0→(i:Int)<x.no∧x.no<n∧(i:Int)<x.yes∧x.yes<n:=fun h=>bt h
      have j4:∀ m:Int,(i:Int)<m→m<n→(i:Int)<(ec (i+1) r).1.getD (m.toNat-(i+1)) 0∧(ec (i+1) r).1.getD (m.toNat-(i+1)) 0<n:=fun m U ad=>by
        have:=(a1 (m.toNat-(i+1)) ag).1;omega
      rw [ec];simp only [List.getD_cons_zero];refine ⟨?_,by split<;>rfl,by split<;>rfl,?_⟩
      · split
        · rename_i j aK
          obtain ⟨U,ad,-⟩:=Na aK;omega
        · omega
      · split
        · rename_i h
          intro _;obtain ⟨h3,dx,m9,n6⟩:=a7 h;have c4:=j4 x.no h3 dx;have dd:=j4 x.yes m9 n6;simp only;omega
        · rename_i h
          intro ad;exact absurd ad h
theorem Nc {α:Type} (f:Nat→α→Bool) (x:α):∀ (l:List α) (k:Nat),nR f k (l++[x])=if f (k+l.length) x then some (k+l.length) else nR f k l
  | [],k=>by rw [nil_append,nR,nR];rfl
  | y::r,k=>by
    have e:k+1+r.length=k+(y::r).length:=by rw [length_cons];omega
    rw [cons_append,nR,Nc f x r (k+1),e,nR];by_cases h:f (k+(y::r).length) x=true
    · rw [if_pos h,if_pos h]
    · rw [if_neg h,if_neg h]
structure DL (g:List b0):Prop where
 pos:1≤g.length
 len:g.length≤1000
 ms:∀ x∈g,x.ms.length≤16
 fe:∀ (i:Nat) (x:b0),g[i]? = some x→x.atom≥0→(i:Int)<x.no∧x.no<g.length∧(i:Int)<x.yes∧x.yes<g.length
def iH (g:List b0) (m:Nat):List Int:=replicate m 0++(ec m (g.drop m)).1
def k0 (g:List b0) (m:Nat):List b0:=g.take m++(ec m (g.drop m)).2
theorem DM (g:List b0) {m:Nat} (h:m≤g.length):(iH g m).length=g.length:=by
 unfold iH;rw [length_append,length_replicate,(yx _ _).1,length_drop];omega
theorem HJ (g:List b0) {m:Nat} (h:m≤g.length):(k0 g m).length=g.length:=by
 unfold k0;rw [length_append,length_take,(yx _ _).2,length_drop];omega
theorem HK (g:List b0) (m:Nat) (j:Nat):(iH g m).getD (m+j) 0=(ec m (g.drop m)).1.getD j 0:=by
 unfold iH;rw [getD_eq_getElem?_getD,getD_eq_getElem?_getD,List.getElem?_append_right t',length_replicate,Nat.add_sub_cancel_left]
theorem W2 (g:List b0) {m:Nat} (h:m≤g.length) (j:Nat):(k0 g m)[m+j]? = (ec m (g.drop m)).2[j]?:=by
 unfold k0;rw [List.getElem?_append_right tA,length_take,Nat.min_eq_left h,Nat.add_sub_cancel_left]
theorem W3 (g:List b0) {m i:Nat} (h:i<m) (hm:m≤g.length):(k0 g m)[i]? = g[i]?:=by
 unfold k0;rw [getElem?_append_left tA,getElem?_take,if_pos h]
def pW (g:List b0) (m:Nat) (x:b0):b0:=if x.atom≥0 then { x with no:=(iH g (m+1)).getD x.no.toNat 0,yes:=(iH g (m+1)).getD x.yes.toNat 0 } else x
def r4 (g:List b0) (m:Nat) (y:b0) (j:Nat) (z:b0):Bool:=(ec (m+1) (g.drop (m+1))).1.getD j 0==((m+1+j:Nat):Int)&&z==y
theorem W4 {g:List b0} (aw:DL g) {m:Nat} {x:b0} (ab:g[m]? = some x) :
  ec m (g.drop m)=((match nR (r4 g m (pW g m x)) 0 (ec (m+1) (g.drop (m+1))).2 with
   | some j=>((m+1+j:Nat):Int)
   | none=>(m:Int))::(ec (m+1) (g.drop (m+1))).1,pW g m x::(ec (m+1) (g.drop (m+1))).2):=by
 have au:m<g.length:=(List.getElem?_eq_some_iff.1 ab).1;have ax:g.drop m=x::g.drop (m+1):=by
  rw [List.drop_eq_getElem_cons au,(List.getElem?_eq_some_iff.1 ab).2]
 rw [ax,ec];have ay:(if x.atom≥0 then { x with no:=(ec (m+1) (g.drop (m+1))).1.getD (x.no.toNat-(m+1)) 0,yes:=(ec (m+1) (g.drop (m+1))).1.getD (x.yes.toNat-(m+1)) 0 } else x)=pW g m x:=by
  unfold pW;split
  ·rename_i h
   have:=aw.fe m x ab h;rw [← HK,← HK,show m+1+(x.no.toNat-(m+1))=x.no.toNat by omega,show m+1+(x.yes.toNat-(m+1))=x.yes.toNat by omega]
  ·rfl
 simp only [ay];rfl
theorem W5 (x y:b0):(x==y)=(decide (x.atom=y.atom)&&(decide (x.no=y.no)&&(decide (x.yes=y.yes)&&x.ms==y.ms))):=by
 obtain ⟨a,b,c,d⟩:=x;obtain ⟨c',aW,oI,c3⟩:=y;rw [Bool.eq_iff_iff];simp
theorem gk {α:Type} {l:List α} {m:Nat} {x:α} (h:l[m]? = some x):l.set m x=l:=by
 apply List.ext_getElem?;intro j;rw [List.getElem?_set];split
 ·rename_i e
  subst e;have:=(List.getElem?_eq_some_iff.1 h).1;rw [if_pos this,h]
 ·rfl
theorem Nd {g:List b0} {m:Nat} {k:Int} {r:List Int} {ys:List b0} (h:ec m (g.drop m)=(k::r,ys)) (ad:(ec (m+1) (g.drop (m+1))).1=r):(iH g (m+1)).set m k=iH g m:=by
 unfold iH;rw [h,ad,List.replicate_succ',append_assoc,List.set_append_right _ _ t',length_replicate,sub_self];rfl
theorem W6 {g:List b0} {m:Nat} {y:b0} {r:List b0} {ks:List Int} (au:m<g.length) (h:ec m (g.drop m)=(ks,y::r)) (ad:(ec (m+1) (g.drop (m+1))).2=r):(k0 g (m+1)).set m y=k0 g m:=by
 unfold k0;rw [h,ad,List.take_add_one,getElem?_eq_getElem au,append_assoc,List.set_append_right _ _ tA,length_take,Nat.min_eq_left ag,sub_self];rfl
theorem HL:∀ (l:List b0) (i k:Nat) (z:b0),(ec i l).2[k]? = some z→∃ x∈l,z.ms=x.ms
  | [],i,k,z,h=>by rw [ec] at h;cases h
  | x::r,i,0,z,h=>by
    rw [ec] at h;simp only [List.getElem?_cons_zero,Option.some.injEq] at h;refine ⟨x,mem_cons_self,?_⟩;rw [← h];split<;>rfl
  | x::r,i,k+1,z,h=>by
    rw [ec] at h;simp only [List.getElem?_cons_succ] at h;obtain ⟨y,U,ad⟩:=HL r (i+1) k z h;exact ⟨y,mem_cons_of_mem _ U,ad⟩
theorem W7 (g:List b0) (m:Nat) (x:b0):(pW g m x).ms=x.ms:=by unfold pW;split<;>rfl
open Go.cU
def HM (es:List (af×af)):Prop:=∀ e∈es,∃ n:Int,e.1 = .int .i64 n
theorem HN {x:Int} {v:af}:∀ {es:List (af×af)},HM es→∃ du,lA es (.int .i64 x) v=some du∧HM du∧∀ y:Int,iV du (.int .i64 y)=if y=x then some (some v) else iV es (.int .i64 y)
  | [],_=>⟨[(.int .i64 x,v)],rfl,fun e he=>by rw [mem_singleton.1 he];exact ⟨x,rfl⟩,fun y=>by
    rw [iV,iV]
    by_cases h:y=x
    · subst h;simp [j2]
    · have:(y==x)=false:=by rw [beq_eq_false_iff_ne];exact h
      simp only [j2,if_true,this,if_neg h];rfl⟩
  | e::r,h=>by
    obtain ⟨n,az⟩:=h e mem_cons_self;obtain ⟨k,u⟩:=e;have az:k = .int .i64 n:=az;subst az;by_cases ab:n=x
    · subst ab
      refine ⟨(.int .i64 n,v)::r,by rw [lA];simp [j2],fun e he=>?_,fun y=>?_⟩
      · rcases mem_cons.1 he with rfl|he
        · exact ⟨n,rfl⟩
        · exact h e (mem_cons_of_mem _ he)
      · rw [iV,iV]
        by_cases ay:y=n
        · subst ay;simp [j2]
        · have:(y==n)=false:=by rw [beq_eq_false_iff_ne];exact ay
          simp only [j2,if_true,this,if_neg ay]
    · obtain ⟨du,U,ad,al⟩:=HN (x:=x) (v:=v) (es:=r) fun e he=>h e (mem_cons_of_mem _ he)
      have aq:(x==n)=false:=by rw [beq_eq_false_iff_ne];exact fun e=>ab e.symm
      refine ⟨(.int .i64 n,u)::du,by rw [lA];simp only [j2,if_true,aq,U],fun e he=>?_,fun y=>?_⟩
      · rcases mem_cons.1 he with rfl|he
        · exact ⟨n,rfl⟩
        · exact ad e he
      · rw [iV,iV,al]
        by_cases ay:y=n
        · subst ay
          simp [j2,ab]
        · have:(y==n)=false:=by rw [beq_eq_false_iff_ne];exact ay
          simp only [j2,if_true,this]
structure pX (num:List (af×af)) (order path:List Int):Prop where
 int:HM num
 get:∀ x:Int,iV num (.int .i64 x)=some (if order.contains x then some (.int .i64 (placeOf order x)) else if path.contains x then some (.int .i64 (-1)) else none)
theorem pX.empty:pX [] [] []:=⟨fun _ h=>nA,fun _=>rfl⟩
theorem pX.enter {num:List (af×af)} {order path:List Int} (h:pX num order path) {fe:Int} (U:order.contains fe=false) :
  ∃ uN,lA num (.int .i64 fe) (.int .i64 (-1))=some uN∧pX uN order (fe::path):=by
 obtain ⟨es,ad,al,bd⟩:=HN (x:=fe) (v := .int .i64 (-1)) h.int;refine ⟨es,ad,al,fun x=>?_⟩;rw [bd,h.get,List.contains_cons];by_cases ab:x=fe
 ·subst ab
  rw [if_pos C,U];simp
 ·rw [if_neg ab,show (x==fe)=false by rw [beq_eq_false_iff_ne];exact ab,Bool.false_or]
theorem W8 {order:List Int} {fe:Int} (h:order.contains fe=false):placeOf (order++[fe]) fe=(order.length:Int):=by
 unfold placeOf;have:(order++[fe]).findIdx? (· == fe)=some order.length:=by
  rw [List.findIdx?_append];have az:order.findIdx? (· == fe)=none:=by
   rw [findIdx?_eq_none_iff];intro x ab;rw [beq_eq_false_iff_ne];rintro rfl;rw [contains_iff_mem.2 ab] at h;cases h
  rw [az];simp [List.findIdx?_cons]
 rw [this];rfl
theorem W9 {order:List Int} {fe x:Int} (h:order.contains x=true):placeOf (order++[fe]) x=placeOf order x:=by
 unfold placeOf;rw [List.findIdx?_append];cases a6:order.findIdx? (· == x) with
 | some i=>rfl
 | none=>
  rw [findIdx?_eq_none_iff] at a6;have:=a6 x (contains_iff_mem.1 h);simp at this
theorem pX.leave {num:List (af×af)} {order path:List Int} {fe:Int} (h:pX num order (fe::path)) (U:order.contains fe=false) :
  ∃ uN,lA num (.int .i64 fe) (.int .i64 (order.length:Int))=some uN∧pX uN (order++[fe]) path:=by
 obtain ⟨es,ad,al,bd⟩:=HN (x:=fe) (v := .int .i64 (order.length:Int)) h.int;refine ⟨es,ad,al,fun x=>?_⟩;rw [bd,h.get,List.contains_append,List.contains_cons,List.contains_cons];by_cases ab:x=fe
 ·subst ab
  rw [if_pos C,U,W8 U];simp
 ·rw [if_neg ab,show (x==fe)=false by rw [beq_eq_false_iff_ne];exact ab,Bool.false_or,Bool.false_or]
  cases aC:order.contains x with
  | true=>rw [W9 aC];simp
  | false=>simp
theorem W' {order:List Int} {x:Int} (h:order.contains x=false):placeOf order x=0:=by
 unfold placeOf;have az:order.findIdx? (· == x)=none:=by
  rw [findIdx?_eq_none_iff];intro y ay;rw [beq_eq_false_iff_ne];rintro rfl;rw [contains_iff_mem.2 ay] at h;cases h
 rw [az];rfl
theorem Nf (order:List Int) (x:Int):0≤placeOf order x∧placeOf order x≤order.length:=by
 unfold placeOf;cases a6:order.findIdx? (· == x) with
 | none=>exact ⟨by simp,by simp⟩
 | some i=>
  have:=(List.findIdx?_eq_some_iff_getElem.1 a6).1;simp;omega
structure o4 (n:Nat) (order:List Int):Prop where
 nodup:order.Nodup
 lt:∀ x∈order,0≤x∧x<n
theorem o4.len {n:Nat} {order:List Int} (h:o4 n order):order.length≤n:=by
 have ad:order ⊆ (range n).map (fun i:Nat=>(i:Int)):=fun x ab=>by
  have:=h.lt x ab;exact mem_map.2 ⟨x.toNat,List.mem_range.2 ag,by omega⟩
 have:=List.Nodup.length_le_of_subset h.nodup ad;simpa using this
def Down (N:List b0):Prop:=∀ (i:Nat) (x:b0),N[i]? = some x→x.atom≥0→(i:Int)<x.no∧x.no<N.length∧(i:Int)<x.yes∧x.yes<N.length
theorem Ng {N:List b0} {k a:Nat} {order:List Int} {x:b0} (ab:N[a]? = some x):meet N (k+1) order a=if order.contains (a:Int) then order else (if x.atom≥0 then meet N k (meet N k order x.yes) x.no else order)++[(a:Int)]:=by
 rw [meet];simp only [toNat_natCast,getD_eq_getElem?_getD,ab,getD_some]
theorem o4.snoc {n:Nat} {order:List Int} (h:o4 n order) {a:Nat} (a7:a<n) (az:(a:Int)∉order):o4 n (order++[(a:Int)]):=⟨by
 rw [List.nodup_append]
 refine ⟨h.nodup,by simp,fun x ab y ay=>?_⟩
 rw [mem_singleton.1 ay]
 rintro rfl
 exact az ab,fun x ab=>by
 rcases mem_append.1 ab with ab|ab
 ·exact h.lt x ab
 ·rw [mem_singleton.1 ab];omega⟩
theorem yy {N:List b0} (e8:Down N):∀ (k a:Nat),a<N.length→N.length-a≤k→∀ order:List Int,o4 N.length order→o4 N.length (meet N k order a)∧∀ y∈meet N k order a,y∈order∨(a:Int)≤y
  | 0,a,U,ad,_,_=>by omega
  | k+1,a,U,ad,order,ah=>by
    obtain ⟨x,ab⟩:∃ x,N[a]? = some x:=⟨_,getElem?_eq_getElem U⟩;rw [Ng ab];cases aC:order.contains (a:Int) with
    | true=>rw [if_pos C];exact ⟨ah,fun y h => .inl h⟩
    | false=>
      rw [if_neg a'];have key:o4 N.length (if x.atom≥0 then meet N k (meet N k order x.yes) x.no else order)∧∀ y∈(if x.atom≥0 then meet N k (meet N k order x.yes) x.no else order),y∈order∨(a:Int)<y:=by
        split
        · rename_i a7
          obtain ⟨d1,d2,d3,d4⟩:=e8 a x ab a7;obtain ⟨y,ay⟩:∃ y:Nat,x.yes=y:=⟨x.yes.toNat,by omega⟩;obtain ⟨z,bO⟩:∃ z:Nat,x.no=z:=⟨x.no.toNat,by omega⟩;rw [ay,bO];obtain ⟨pP,bT⟩:=yy e8 k y ag ag order ah;obtain ⟨ff,HO⟩:=yy e8 k z ag ag _ pP;refine ⟨ff,fun u hu=>?_⟩;rcases HO u hu with h|h
          · rcases bT u h with h|h
            · exact .inl h
            · exact .inr ag
          · exact .inr ag
        · exact ⟨ah,fun y h => .inl h⟩
      obtain ⟨cD,dh⟩:=key;refine ⟨cD.snoc U (fun hm=>?_),fun y ay=>?_⟩
      · rcases dh _ hm with h|h
        · rw [contains_iff_mem.2 h] at aC;cases aC
        · omega
      · rcases mem_append.1 ay with ay|ay
        · exact (dh y ay).imp id (fun h=>by omega)
        · rw [mem_singleton.1 ay];exact .inr (Int.le_refl _)
end Go.eb
