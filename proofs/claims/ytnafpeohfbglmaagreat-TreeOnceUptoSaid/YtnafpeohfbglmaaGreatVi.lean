import Derived.Test.YtnafpeohfbglmaaGreatVh
import Derived.Test.YtnafpeohfbglmaaGreatRows
import Derived.ProofKit
import Derived.OpenShut
import Derived.WalkKit
import Derived.JoinedCond
set_option linter.unusedVariables false
set_option linter.unusedSimpArgs false
set_option maxRecDepth 100000
set_option maxHeartbeats 4000000
open Array renaming length_toList→ae9
open Bool renaming and_eq_true→f9,and_true→aq9,eq_false_iff→af5,eq_iff_iff→af4,false_and→f6,false_or→ah1,not_eq_true'→ai0,not_false→aj3,true_and→f5,true_or→al9
open Int renaming natCast_nonneg→an8,ofNat→aq4,toNat_natCast→i9
open Go.IntKind renaming wrap→ad5
open List renaming all_cons→ak',all_eq_true→ag6,any_eq_false→ak3,any_eq_true→ag5,append_assoc→af9,append_nil→d7,cons_append→ad',countP_cons→aw',drop_nil→at5,drop_succ_cons→ao3,drop→as4,exists_mem_of_ne_nil→ao8,findIdx?_eq_none_iff→ah',getD_eq_getElem?_getD→d5,getElem?_append_left→af',getElem?_append_right→af0,getElem?_cons_succ→ak0,getElem?_drop→ao6,getElem?_eq_getElem→f7,getElem?_eq_some_iff→t7,getElem?_map→af3,getElem?_of_mem→ag2,getElem?_range→ar9,getElem?_reverse→at3,getElem_mem→am9,length_append→f8,length_cons→i0,length_map→f0,length_nil→af7,length_range→ap6,length_reverse→ar8,length_set→ag3,length_take→ae8,map_append→ae1,map_cons→ae2,map_nil→ah2,map_take→ap7,mem_append_left→ai',mem_append_right→an5,mem_append→ae4,mem_cons_of_mem→i6,mem_cons_self→i8,mem_cons→af1,mem_filter→ae3,mem_map→ag0,mem_of_getElem?→d6,mem_or_eq_of_mem_set→al0,mem_singleton→t6,nil_append→d8,nodup_nil→ar5,range→ah0,sum_cons→aq7,take_append_of_le_length→ah6,take_append→aB1,take_length→ae6,take_of_length_le→ag8,take→ar4
open Nat renaming add_assoc→an9,add_comm→aq1,add_sub_cancel→aq0,add_zero→ao',eq_of_testBit_eq→al8,le_refl→g9,lt_of_le_of_lt→aj6,lt_succ_self→am1,mul_one→ai8,pow_le_pow_right→ah7,pow_succ→as',shiftRight_le→ao1,sub_self→an6,testBit_and→ak2,testBit_two_pow→aj7,zero_add→af8,zero_le→g8,zero_mul→au1
open Option renaming bind_eq_some_iff→au7,getD_some→ae',some→al'
open Go.Proofs.Tryz renaming prog→d0
namespace Go.Proofs.YtnafpeohfbglmaaGreat
theorem QG {p:Prop} (h:p:=by repeat (first|exact trivial|refine ⟨⟨_,rfl,aO⟩,?_⟩|refine ⟨⟨_,rfl,aU.of_eq (by (first|rw [iN (by omega)]|rw [ax]))⟩,?_⟩)):p:=h
theorem QH {p:Prop} (h:p:=by repeat (first|exact trivial|refine ⟨⟨_,rfl,aO⟩,?_⟩|refine ⟨⟨_,rfl,aU.of_eq (by (rw [List.map_append];rfl))⟩,?_⟩)):p:=h
theorem QI {p:Prop} (h:p:=by repeat (first|exact trivial|refine ⟨⟨_,rfl,aO⟩,?_⟩|refine ⟨⟨_,rfl,aU.of_eq (by (rw [ad8]))⟩,?_⟩)):p:=h
theorem QJ {p:Prop} (h:p:=by have:=l'.bn;have e:(bT p).owner=fD 0 p.cm:=rfl;rw [e] at this;omega):p:=h
theorem QK {p:Prop} (h:p:=by show aI _ [(_,.row _ _ (kq++[j]).length)] _;rw [List.length_append];exact aI.ei _):p:=h
theorem Ck {p:Prop} (h:p:=by rw [pb,Nat.mul_one];exact BY fun k=>rfl):p:=h
def QL (b:Bool) (o:ey) (_K:a8):Prop:=∃ v,o = .ret (.cu [v,.bool b])
theorem abV (w:bx) (hw:gg w) (L:List cb) (arg:Int) (path:List Int) (bM:nU w L) (aD:path.length≤2) (cn:List Int→Bool) (sr:∀ s,ni L arg path s=true→aV d0 135 [kM w L arg (path++[s])] (.bool (cn (path++[s])))) :
    bF d0 179 [kM w L arg path] [] (QL (xL w L cn arg path)):=by
  have an:=bG;have tL:=hw.jZ;have pU:=hw.bn;have U:=JJ w L arg path bM ag;have ad:=Qh w hw.bn L arg path bM aD;have eJ:=bM.on arg path;have aT:xL w L cn arg path=match qp (fm L arg path) (fun _=>false,fun _=>false) with
    | none=>false
    | some a=>match sL w L cn arg path (jM w.owner.length L arg path) a with
      | none=>false
      | some a => !a.2 0&&(ah0 (3+w.ps.length)).all fun k => !(hp w.ps w.ps.length (fun k=>if k=0 then false else a.1 k) k&&a.2 k):=rfl
  have uf:∀ s∈jM w.owner.length L arg path,ni L arg path s=true∧0≤s∧s<(w.owner.length:Int):=fun s ar=>by
    have h:=(Ci aD bM.2 s).1 ((E9 aD bM.2).1 ar);have:=xV bM.2 h;exact ⟨h,this.1,this.2.1⟩
  have kD:=fun k:Int=>Jt w L arg path k ag
  have lA:∀ k:Int,(path++[k]).length≤3:=fun k=>by rw [f8];simp;omega
  have h5:=fun k:Int=>Qg w L arg (path++[k]) bM (lA k)
  have mB:(jM w.owner.length L arg path).length≤40:=by
    unfold jM;rw [f0];have:=List.length_filter_le (fun s:Nat=>ni L arg path (s:Nat)) (ah0 w.owner.length);rw [ap6] at this;omega
  refine bF.bl ai Tryz.func179 C C fun s I=>?_
  generalize fm L arg path=M at U eJ aT;generalize jM w.owner.length L arg path=l at ad uf aT mB;have xT:=eJ.1;unfold QL;generalize xL w L cn arg path=res at aT ⊢;have dn:ad5 .i64 (3+((w.ps.map fun l=>af.aB 1 (l.map bb) .bc).length:Int))=((3+w.ps.length:Nat):Int):=by rw [f0,ee ag ag];push_cast;rfl
  obtain ⟨gN,uF⟩:∃ gN,gN=3+w.ps.length:=⟨_,rfl⟩;rw [← uF] at dn;unfold kM oM cZ bg at *;refine dF ?_;refine aa.tz ai I gN C C C C C C C C C C (ae7 (fun z=>some (af.int .i64 z)) dn) (ae7 (fun z=>some (af.int .i64 z)) dn) (by show _*1≤_;omega) ag (fun b I=>?_);rw [Jg] at I ⊢;refine hx ?_;refine aa.tz ai I gN C C C C C C C C C C (ae7 (fun z=>some (af.int .i64 z)) dn) (ae7 (fun z=>some (af.int .i64 z)) dn) (by show _*1≤_;omega) ag (fun dk I=>?_);rw [Jg] at I ⊢;refine db ?_;refine ae.b9 [1,4,5,32,33] C I (σ:=Nat×(Nat→Bool)×(Nat→Bool)) (fun q=>[(34,.int .i64 (q.1:Int))]) (fun q=>[(.own dk,.box 4 (hU gN q.2.2)),(.own b,.box 4 (hU gN q.2.1))]) (fun q=>q.1≤M.length∧qp M (fun _=>false,fun _=>false)=qp (M.drop q.1) q.2) (fun q=>M.length-q.1) (0,(fun _=>false),(fun _=>false)) ⟨g8 _,rfl⟩ (cz C) (aI.all _) ?_;rintro ⟨j,f,g⟩ ⟨aH,aq⟩ I
  try simp only at aH aq I ⊢
  refine b8 ?_;refine ae.cond C (fun aw=>?_) (fun aY=>?_)
  · have aw:j<M.length:=by simpa using aw
    obtain ⟨x,ab,bP⟩:=b5 (f:=fun x:cb=>(iq x).bW) aw;have fg:=eJ.at (d6 ab);have dz:=zp x fg.1;have bP:(M.map fun x=>(iq x).bW)[j]? = some (iq x).bW:=bP;rw [ao.cp] at bP;simp only [ao.cp] at dz;rw [drop_cons ab,qp] at aq;have cj:=fg.2.2.2.2;unfold ao.cells at bP dz;by_cases g1:x.1.op=2;rotate_left
    · rw [g6 (.inl g1)] at aq
      cases az:x.2 with
      | true=>
        rw [az] at dz;rw [az,g6 C] at aq;refine dY ?_;refine aa.dy 51 C (by simpa using g1) ?_;refine bD ?_;exact bp.mk (j+1,f,g) I ⟨aw,aq⟩ ck (aI.all _) qn
      | false=>
        rw [az] at dz;rw [az,d9 ba] at aq;rw [aq] at aT;simp only at aT;refine dY ?_;refine aa.dy 51 C (by simpa using g1) ?_;refine e8 ?_;exact Fin.bt (K:=[]) I C aO .nil ⟨_,by rw [aT]⟩
    rw [g1] at dz;have cj:=cj g1;by_cases g2:x.1.cls=1
    · rw [g2] at dz
      rw [g6 (by simp [g1,g2])] at aq;cases az:x.2 with
      | true=>
        rw [az] at dz;rw [az,g6 C] at aq;refine dY ?_;exact bp.mk (j+1,f,g) I ⟨aw,aq⟩ ck (aI.all _) qn
      | false=>
        rw [az] at dz;rw [az,d9 ba] at aq;rw [aq] at aT;simp only at aT;refine dY ?_;exact Fin.bt (K:=[]) I C aO .nil ⟨_,by rw [aT]⟩
    by_cases g3:x.1.cls=2
    · rw [g3] at dz
      rw [g6 (by simp [g1,g3])] at aq;cases az:x.2 with
      | true=>
        rw [az] at dz;rw [az,g6 C] at aq;refine dY ?_;exact bp.mk (j+1,f,g) I ⟨aw,aq⟩ ck (aI.all _) qn
      | false=>
        rw [az] at dz;rw [az,d9 ba] at aq;rw [aq] at aT;simp only at aT;refine dY ?_;exact Fin.bt (K:=[]) I C aO .nil ⟨_,by rw [aT]⟩
    rw [d9 (by simp [g1,g2,g3])] at aq;obtain ⟨c,aF⟩:∃ c:Nat,x.1.cls=c:=⟨x.1.cls.toNat,by omega⟩;rw [aF] at dz g2 g3 aq cj;rw [i9] at aq;cases az:x.2 with
    | true=>
      rw [az] at dz;rw [az,g6 C] at aq;refine dY ?_;refine aa.da 56 C (by simpa using g2) ?_;refine fK ?_;refine ae.cond C (fun h=>absurd fV g3) (fun _=>?_);refine bD ?_;refine aa.fc ai c C C C C C C C C C C ag ?_;refine aa.jv ai I (hU gN fun k=>if k=c then true else g k) C C C C C C C C C aZ (by rw [nT];show c*1+1≤_;omega) Ck (fun I=>?_);refine gf ?_;exact bp.mk (j+1,f,fun k=>if k=c then true else g k) I ⟨aw,aq⟩ ck a1 qn
    | false=>
      rw [az] at dz;rw [az,d9 ba] at aq;refine dY ?_;refine aa.da 56 C (by simpa using g2) ?_;refine fK ?_;refine ae.cond C (fun h=>absurd fV g3) (fun _=>?_);refine bD ?_;refine aa.fc ai c C C C C C C C C C C ag ?_;refine aa.jv ai I (hU gN fun k=>if k=c then true else f k) C C C C C C C C C aZ (by rw [nT];show c*1+1≤_;omega) Ck (fun I=>?_);refine gf ?_;exact bp.mk (j+1,(fun k=>if k=c then true else f k),g) I ⟨aw,aq⟩ ck a1 qn
  have aY:j=M.length:=by simp at aY;omega
  rw [eG ag,qp] at aq;rw [aq] at aT;simp only at aT;clear aq;refine db ?_;refine ae.b9 [1,4,5,71,72] C I (σ:=Nat×(Nat→Bool)×(Nat→Bool)) (fun q=>[(73,.int .i64 (q.1:Int))]) (fun q=>[(.own dk,.box 4 (hU gN q.2.2)),(.own b,.box 4 (hU gN q.2.1))]) (fun q=>q.1≤l.length∧sL w L cn arg path l (f,g)=sL w L cn arg path (l.drop q.1) q.2) (fun q=>l.length-q.1) (0,f,g) ⟨g8 _,rfl⟩ (cz C) (aI.all _) ?_;rintro ⟨i,f2,g2⟩ ⟨aN,cL⟩ I
  try simp only at aN cL I ⊢
  refine b8 ?_;refine ae.cond C (fun aw=>?_) (fun dd=>?_)
  · have aw:i<l.length:=by simpa using aw
    obtain ⟨y,ax,c7⟩:=b5 (f:=bb) aw;obtain ⟨abW,JR,hP⟩:=uf y (d6 ax);have rn:=sr y abW;have kD:=kD y;have h5:=h5 y;rw [drop_cons ax,sL] at cL;obtain ⟨k,rfl⟩:∃ k:Nat,y=k:=⟨y.toNat,by omega⟩;have qc:k<w.owner.length:=by omega
    obtain ⟨o,ah,HW⟩:=b5 (f:=bb) qc;have lP:=hw.own o (d6 ah);obtain ⟨lE,rfl⟩:∃ q:Nat,o=q:=⟨o.toNat,by omega⟩;rw [i9,d5,ah,ae',i9] at cL;unfold bb at c7 HW;unfold bb at rn kD h5;cases By:lh L arg (path++[(k:Int)])<;>cases Jx:cn (path++[(k:Int)])<;>rw [By] at h5 cL<;>rw [Jx] at rn cL<;>simp only [aj3,Bool.not_true,aq9,Bool.and_false,Bool.false_eq_true,ag7,ah9] at cL
    · rw [cL] at aT
      simp only at aT;refine dY ?_;exact Fin.bt (K:=[]) I C aO .nil ⟨_,by rw [aT]⟩
    · refine dY ?_
      refine aa.fc ai lE C C C C C C C C C C ag ?_;refine aa.jv ai I (hU gN fun k=>if k=lE then true else f2 k) C C C C C C C C C aZ (by rw [nT];show lE*1+1≤_;omega) Ck (fun I=>?_);refine bD ?_;exact bp.mk (i+1,(fun k=>if k=lE then true else f2 k),g2) I ⟨aw,cL⟩ ck a1 sI
    · refine dY ?_
      refine aa.fc ai lE C C C C C C C C C C ag ?_;refine aa.jv ai I (hU gN fun k=>if k=lE then true else g2 k) C C C C C C C C C aZ (by rw [nT];show lE*1+1≤_;omega) Ck (fun I=>?_);refine gf ?_;exact bp.mk (i+1,f2,fun k=>if k=lE then true else g2 k) I ⟨aw,cL⟩ ck a1 sI
    · refine dY ?_
      exact bp.mk (i+1,f2,g2) I ⟨aw,cL⟩ ck (aI.all _) sI
  have dd:i=l.length:=by simp at dd;omega
  rw [eG ag,sL] at cL;rw [cL] at aT;simp only at aT;clear cL sr kD h5 ad;refine bD ?_;refine aa.fc ai 0 C C C C C C C C C C ag ?_;refine aa.jv ai I (hU gN fun k=>if k=0 then false else f2 k) C C C C C C C C C aZ (by rw [nT];show 0*1+1≤_;omega) Ck (fun I=>?_);refine hx ?_;refine aa.fc ai 0 C C C C C C C C C C ag ?_;refine aa.jY ai I C C C C C C aZ C (v := .bool (g2 0)) (by rw [au1];exact tY g2 ag) ?_;cases QM:g2 0 with
  | true=>
    rw [QM] at aT;have aT:res=false:=aT;refine eg ?_;exact Fin.bt (K:=[]) I C aO .nil ⟨_,by rw [aT]⟩
  | false=>
  rw [QM,aj3,f5] at aT;refine bD ?_;refine aa.q1 ai C C C C C C C ?_;refine dL ?_;obtain ⟨f3,QN⟩:∃ f3:Nat→Bool,f3=fun k=>if k=0 then false else f2 k:=⟨_,rfl⟩
  rw [← QN] at I aT ⊢;clear QN;refine ae.b9 [1,4,5] C I (σ:=Nat×(Nat→Bool)) (fun q=>[(15,.int .i64 (2+q.1:Int))]) (fun q=>[(.own b,.box 4 (hU gN q.2)),(.own dk,.box 4 (hU gN g2))]) (fun q=>q.1≤w.ps.length∧hp w.ps w.ps.length f3=hp w.ps q.1 q.2) (fun q=>q.1) (w.ps.length,f3) ⟨g9 _,rfl⟩ (by repeat (first|exact trivial|refine ⟨⟨_,rfl,aO⟩,?_⟩|refine ⟨⟨_,rfl,aU.of_eq (by (rw [ee ag ag];congr 1;rw [uF];push_cast;omega))⟩,?_⟩)) a1 ?_;rintro ⟨m,f4⟩ ⟨hm,e4⟩ I
  try simp only at hm e4 I ⊢
  refine b8 ?_;refine ae.cond C (fun kE=>?_) (fun jW=>?_)
  · have kE:1≤m:=by simp at kE;omega
    obtain ⟨q,rfl⟩:∃ q,m=q+1:=⟨m-1,by omega⟩;obtain ⟨pl,gH,abX⟩:=b5 (f:=fun l:List Int=>af.aB 1 (l.map bb) .bc) (show q<w.ps.length by omega);have adI:=hw.short pl (d6 gH);have Ji:=fun p aD=>xG hw gH (p:=p) aD
    have ig:(2+((q+1:Nat):Int))=((3+q:Nat):Int):=by push_cast;omega
    have iz:ad5 .i64 (((3+q:Nat):Int)-3)=(q:Int):=by rw [ee ag ag];omega
    have ad8:ad5 .i64 (((3+q:Nat):Int)-1)=2+(q:Int):=by rw [ee ag ag];omega
    rw [hp,d5,gH,ae'] at e4;rw [ig];refine dL ?_;refine aa.fc ai (3+q) C C C C C C C C C C ag ?_;refine aa.jY ai I C C C C C C aZ C (v := .bool (f4 (3+q))) (by rw [ai8];exact tY f4 ag) ?_;cases QO:f4 (3+q) with
    | false=>
      have e:(fun k=>f4 k||(f4 (3+q)&&pl.contains (k:Int)))=f4:=funext fun k=>by rw [QO];simp
      rw [e] at e4;refine bD ?_;exact bp.mk (q,f4) I ⟨by show q≤_;omega,e4⟩ QI a1 (am1 q)
    | true=>
      rw [QO] at e4;simp only [f5] at e4;refine bD ?_;refine aa.idx ai q C C C C C C C C C C iz abX C ?_;refine dL ?_
      refine ae.b9 [1,4,5,15,133,134] C I (σ:=Nat) (fun i=>[(135,.int .i64 (i:Int))]) (fun i=>[(.own b,.box 4 (hU gN fun k=>f4 k||(pl.take i).contains (k:Int))),(.own dk,.box 4 (hU gN g2))]) (fun i=>i≤pl.length) (fun i=>pl.length-i) 0 (g8 _) (cz C) (by
        rw [show (fun k=>f4 k||(pl.take 0).contains (k:Int))=f4 from funext fun k=>by rw [List.take_zero];simp]
        exact aI.all _) ?_
      rintro i aN I
      try simp only at aN I ⊢
      refine b8 ?_;refine ae.cond C (fun aw=>?_) (fun aY=>?_)
      · have aw:i<pl.length:=by simpa using aw
        obtain ⟨p,aD,fa⟩:=b5 (f:=bb) aw;have ZU:=Ji p (d6 aD);obtain ⟨xX,rfl⟩:∃ xX:Nat,p=xX:=⟨p.toNat,by omega⟩;have EK:∀ k,(f4 k||(pl.take (i+1)).contains (k:Int))=if k=xX then true else (f4 k||(pl.take i).contains (k:Int)):=fun k=>by
          rw [Jh aD];by_cases e:k=xX
          · subst e;rw [g6 C];simp
          · rw [d9 e,show ((k:Int)==(xX:Int))=false by rw [beq_eq_false_iff_ne];omega,Bool.or_false]
        unfold bb at fa;refine dL ?_;refine aa.fc ai xX C C C C C C C C C C ag ?_;refine aa.jv ai I (hU gN fun k=>f4 k||(pl.take (i+1)).contains (k:Int)) C C C C C C C C C aZ (by rw [nT];show xX*1+1≤_;omega) (by rw [pb,ai8];exact BY EK) (fun I=>?_);refine gf ?_;exact bp.mk (i+1) I aw ck a1 (by show pl.length-(i+1)<pl.length-i;omega)
      have aY:i=pl.length:=by simp at aY;omega
      rw [aY,ae6] at I ⊢;refine bD ?_;exact bp.mk (q,fun k=>f4 k||pl.contains (k:Int)) I ⟨by show q≤_;omega,e4⟩ QI a1 (am1 q)
  have jW:m=0:=by simp at jW;omega
  subst jW;rw [hp] at e4;rw [e4] at aT;clear e4;refine bD ?_;refine aa.q1 ai C C C C C C C ?_;refine dL ?_;refine ae.b9 [4,5,144] C I (σ:=Nat) (fun i=>[(145,.int .i64 (i:Int))]) (fun _=>[(.own b,.box 4 (hU gN f4)),(.own dk,.box 4 (hU gN g2))]) (fun i=>i≤gN∧((ah0 gN).all fun k => !(f4 k&&g2 k))=((ah0 gN).drop i).all fun k => !(f4 k&&g2 k)) (fun i=>gN-i) 0 ⟨g8 _,rfl⟩ (cz C) (aI.all _) ?_;rintro i ⟨aN,bf⟩ I
  try simp only at aN bf I ⊢
  refine b8 ?_;refine ae.cond C (fun aw=>?_) (fun aY=>?_)
  · have aw:i<gN:=by simpa using aw
    rw [drop_cons (ar9 aw),ak'] at bf;refine bD ?_;refine aa.fc ai i C C C C C C C C C C aw ?_;refine aa.jY ai I C C C C C C aZ C (v := .bool (f4 i)) (by rw [ai8];exact tY f4 aw) ?_;cases zr:f4 i with
    | false=>
      rw [zr] at bf;refine bD ?_;exact bp.mk (i+1) I ⟨aw,bf⟩ ck (aI.all _) (by show gN-(i+1)<gN-i;omega)
    | true=>
      rw [zr,f5] at bf;refine ep ?_;refine aa.fc ai i C C C C C C C C C C aw ?_;refine aa.jY ai I C C C C C C aZ C (v := .bool (g2 i)) (by rw [ai8];exact tY g2 aw) ?_;cases xE:g2 i with
      | true=>
        rw [xE] at bf;have aT:res=false:=by rw [aT,← uF,bf];rfl
        refine e8 ?_;exact Fin.bt (K:=[]) I C aO .nil ⟨_,by rw [aT]⟩
      | false=>
        rw [xE] at bf;refine bD ?_;exact bp.mk (i+1) I ⟨aw,bf⟩ ck (aI.all _) (by show gN-(i+1)<gN-i;omega)
  have aY:i=gN:=by simp at aY;omega
  have aT:res=true:=by rw [aT,← uF,bf,aY,List.drop_of_length_le ba];rfl
  refine ef ?_;exact Fin.bt (K:=[]) I C (aU.cu (.cons (aU.any _) (.one aO))) .nil ⟨.any,by rw [aT]⟩
theorem QP (w:bx) (hw:gg w) (L:List cb) (arg:Int) (bM:nU w L):∀ (k:Nat) (path:List Int),path.length≤2→3≤k+path.length→aV d0 135 [kM w L arg path] (.bool (oL w L arg k path))
  | 0,path,aD,aj=>by omega
  | k+1,path,aD,aj=>by
    have U:=abS w hw.bn L arg path bM aD;have ad:=abR w hw.bn L arg path bM aD
    have a':=abV w hw L arg path bM aD (oL w L arg k) (fun s ar=>by
      have:=(xV bM.2 ar).2.2
      have e:(path++[s]).length=path.length+1:=by simp
      exact QP w hw L arg bM k (path++[s]) ag ag)
    have hm:oL w L arg (k+1) path=(vy w.owner.length L arg path||(t' w.owner.length L arg path||xL w L (oL w L arg k) arg path)):=by rw [oL]
    rw [hm];refine aV.bl ai Tryz.func135 C C fun s I=>?_
    unfold kM oM cZ bg at *;refine dF ?_;refine aa.b7 rfl rfl rfl rfl rfl U I .nil ?_ (fun _ _ ⟨⟨_,h⟩,_⟩ _=>by cases h);rintro _ _ ⟨⟨v,⟨⟩⟩,rfl⟩ I;cases vy w.owner.length L arg path with
    | true=>
      rw [al9];refine eg ?_;exact bA I
    | false=>
    rw [ah1];cases h4:t' w.owner.length L arg path with
    | true=>
      rw [h4] at ad;rw [al9];refine cB ?_;exact bA I
    | false=>
    rw [h4] at ad;rw [ah1];refine cB ?_;refine aa.b7 rfl rfl rfl rfl rfl a' I .nil ?_ (fun _ _ ⟨_,h⟩ _=>by cases h);rintro _ aP ⟨v,⟨⟩⟩ I;refine eg ?_;exact bA I
theorem abY (w:bx) (hw:gg w) (L:List cb) (bM:nU w L):aV d0 89 [fh w,oM L] (.bool (B4 w L)):=by
 have an:=bG;refine aV.bl ai Tryz.func89 C C fun s I=>?_
 have U:=fun a:Nat=>QP w hw L (a:Int) bM 3 [] ba ba
 have eo:B4 w L=(ah0 3).all fun a=>oL w L ((a:Nat):Int) 3 []:=rfl
 rw [eo];unfold kM oM fh fl cZ bg at *;refine gy ?_;refine ae.b9 [1,2] C I (σ:=Nat) (fun i=>[(5,.int .i64 (i:Int))]) (fun _=>[]) (fun i=>i≤3∧((ah0 3).all fun a=>oL w L ((a:Nat):Int) 3 [])=((ah0 3).drop i).all fun a=>oL w L ((a:Nat):Int) 3 []) (fun i=>3-i) 0 ⟨g8 _,rfl⟩ (cz C) a1 ?_;rintro i ⟨aN,bf⟩ I
 try simp only at aN bf I ⊢
 refine b8 ?_;refine ae.cond C (fun aw=>?_) (fun aY=>?_);rotate_left
 ·have aY:i=3:=by simp at aY;omega
  rw [bf,aY];refine ef ?_;exact bA I
 have aw:i<3:=by simp at aw;omega
 rw [drop_cons (ar9 aw),ak'] at bf;have U:=aV.args (.one (aU.agg (.cons aO (.cons aO (.cons aO (.cons aO (.cons (aU.empty (sz:=0) (own := .nil)) (.one aO)))))))) (U i);cases aF:oL w L ((i:Nat):Int) 3 [] with
 | false=>
  rw [aF] at U bf;rw [bf];refine dY ?_;exact bA I
 | true=>
  rw [aF] at U bf;refine dY ?_;exact bp.mk (i+1) I ⟨aw,bf⟩ ck a1 (by show 3-(i+1)<3-i;omega)
theorem QQ:∀ (l:List ao) (i v j:Nat) (x:ao),l[j]? = some x→(su i l v)[j]? = some (x,!v.testBit (i+j))
  | y::r,i,v,0,x,h=>by
    rw [su];have:y=x:=by simpa using h
    rw [this];rfl
  | y::r,i,v,j+1,x,h=>by
    rw [su,ak0,QQ r (i+1) v j x fV];rw [show i+1+j=i+(j+1) by omega]
theorem QR:∀ (l:List ao) (i v:Nat),(su i l v).length=l.length
 | [],_,_=>rfl
 | y::r,i,v=>by rw [su,i0,QR r,i0]
theorem JS {l:List ao} {v j:Nat} {x:ao} (h:l[j]? = some x):(rp l v)[j]? = some (x,!v.testBit j):=by
 have:=QQ l 0 v j x h;rwa [af8] at this
theorem Ff (l:List ao) (v:Nat):(rp l v).length=l.length:=QR l 0 v
theorem QS {w:bx} {l:List ao} (aE:jA w l) (hs:l.length≤7) (v:Nat):nU w (rp l v):=by
 refine ⟨by rw [Ff];omega,fun x ab=>?_⟩;obtain ⟨j,aH⟩:=ag2 ab;have qJ:=oe aH;rw [Ff] at qJ;have h:=JS (v:=v) (f7 qJ);rw [aH] at h;simp only [al'.injEq] at h;subst h;have:=aE _ (am9 qJ);rw [p4,f9] at this;exact ⟨this.1.1,this.2⟩
def vI (f:ao):Bool:=decide (f.path.length=0)&&(decide (f.op=2)&&(decide (f.cls=0)||decide (f.cls=2)))
def Fg:Nat→List ao→Nat
 | _,[]=>0
 | i,f::r=>Fg (i+1) r+(if vI f then 2^i else 0)
theorem QT:∀ (l:List ao) (i:Nat),∃ m,Fg i l=2^i*m∧m<2^l.length∧∀ j x,l[j]? = some x→m.testBit j=vI x
  | [],i=>⟨0,by rw [Fg,Nat.mul_zero],by simp,fun j x h=>by cases h⟩
  | f::r,i=>by
    obtain ⟨m,U,ad,aj⟩:=QT r (i+1);refine ⟨2*m+(if vI f then 1 else 0),?_,?_,?_⟩
    · rw [Fg,U,as',Nat.mul_add,Nat.mul_assoc]
      split<;>simp
    · rw [i0,as'];split<;>omega
    · intro j x ab
      cases j with
      | zero=>
        have:f=x:=by simpa using ab
        subst this;rw [Nat.testBit_zero];cases vI f<;>simp<;>omega
      | succ j=>
        rw [Nat.testBit_succ,← aj j x uj];congr 1;split<;>omega
theorem abZ {w:bx} {l:List ao} (de:jA w l):∃ v,v<2^l.length∧∀ (arg:Int) (n:Nat),t' n (rp l v) arg []=true:=by
 obtain ⟨m,U,ad,aj⟩:=QT l 0;refine ⟨m,ad,fun arg n=>?_⟩;have ab:∀ x∈rp l m,x.2 = !vI x.1:=fun x ab=>by
  obtain ⟨j,aH⟩:=ag2 ab;have qJ:=oe aH;rw [Ff] at qJ;have h:=JS (v:=m) (f7 qJ);rw [aH] at h;simp only [al'.injEq] at h;subst h;simp only;rw [aj j _ (f7 qJ)]
 unfold t';rw [f9,ag6];constructor
 ·intro x hm
  unfold fm at hm;obtain ⟨hm,cY⟩:=ae3.1 hm;have h:=ab x hm;unfold rJ at cY;simp only [f9,i7,am7] at cY;unfold qo;rw [h];unfold vI;rw [cY.2];cases decide (x.1.op=2)&&(decide (x.1.cls=0)||decide (x.1.cls=2))<;>rfl
 ·unfold sK
  rw [ag6];intro s ar;unfold lh;rw [ai0,ak3];intro x hm;have h:=ab x hm;rw [f9,not_and];intro a' bz;rw [E8] at bz;have:vI x.1=false:=by
   unfold vI;rw [H1 (by have:=bz.2.1;simp at this;omega)];rfl
  rw [h,this] at a';cases a'
theorem ab0 {w:bx} (hw:gg w) {l:List ao} (de:jA w l) (hs:l.length≤7):e6 w l≠[]:=by
 obtain ⟨v,au,az⟩:=abZ de;have aE:=QS de hs v;intro he;have hm:v∈e6 w l:=by
  unfold e6;refine ae3.2 ⟨List.mem_range.2 au,?_⟩;unfold nd;rw [← QD hw aE.2];unfold B4;rw [ag6];intro a _;rw [show (3:Nat)=2+1 from rfl,oL,az,al9,Bool.or_true]
 rw [he] at hm;cases hm
structure QU (p:bR) (bh:List eH) (n:Int) (args:List (Int×Int)):Prop where
 prog:gu p=true
 obj:tI (bT p) bh
 jZ:args.length≤3
 mS:∀ v∈args,hz bh.length v=true
 adJ:(args.length:Int)=p.dV.getD n.toNat 0
 hand:oj (bT p) bh args=true
theorem QU.of {p:bR} {bh:List eH} {n:Int} {args:List (Int×Int)} (h:ub p bh n args=true):QU p bh n args:=by
 unfold ub vf at h;simp only [f9,i7] at h;obtain ⟨U,ad,aj,a'⟩:=h;have:=M4 a';exact ⟨U,this.1,this.2.1,this.2.2,aj,a'⟩
def ab1 (w:bx) (bh:List eH) (args:List (Int×Int)) (L:List cb):Prop:=∀ x∈L,uY w bh args x.1 = !x.2
section
variable {w:bx} (hw:gg w) {bh:List eH} (ah:tI w bh) {args:List (Int×Int)} {L:List cb} (bM:sJ w L) (eo:ab1 w bh args L)
include bM eo
end
theorem JT {A:Nat}:∀ (t:bI) (L:List bw),t.rC A→(∀ x∈L,x.atom<(A:Int))→∀ x∈bI.laid L t,x.atom<(A:Int)
  | .leaf ms,L,_,bM,x,ab=>by
    rw [bI.laid] at ab;rcases ae4.1 ab with ab|ab
    · exact bM x ab
    · rw [t6.1 ab];show (-1:Int)<_;omega
  | .test i a b,L,aL,bM,x,ab=>by
    have la:bI.laid L (.test i a b)=(bI.laid (bI.laid (L++[⟨i,0,0,[]⟩]) a) b).set L.length ⟨i,(L.length:Int)+1,((bI.laid (L++[⟨i,0,0,[]⟩]) a).length:Int),[]⟩:=rfl;rw [la] at ab;rw [bI.rC] at aL;rcases al0 ab with ab|rfl
    · refine JT b _ aL.2.2 (JT a _ aL.2.1 fun y ax=>?_) x ab
      rcases ae4.1 ax with ax|ax
      · exact bM y ax
      · rw [t6.1 ax];show (i:Int)<_;omega
    · show (i:Int)<_;omega
theorem ab2 {order:List Int} {j k:Int} (aH:j∈order) (h:j<k):order.countP (fun x=>decide (k≤x))<order.countP (fun x=>decide (j≤x)):=by
 induction order with
 | nil=>cases aH
 | cons x r aX=>
  rw [aw',aw'];have hle:r.countP (fun x=>decide (k≤x))≤r.countP (fun x=>decide (j≤x)):=List.countP_mono_left (fun y _ ax=>by simp at ax ⊢;omega);rcases af1.1 aH with rfl|aH
  ·rw [d9 cP,g6 ba];omega
  ·have:=aX aH
   by_cases ab:k≤x
   ·rw [g6 uj,g6 cP];omega
   ·rw [d9 uj];split<;>omega
theorem kp.count {N:List bw} (dP:Down N) {order:List Int} (cj:∀ y∈order,rD N order y) {v j:Nat} {ms:List Int} {s:Nat} (h:kp N v j ms s):(j:Int)∈order→s<order.countP (fun x=>decide ((j:Int)≤x)):=by
 induction h with
 | leaf aH aR=>
  intro hm;exact List.countP_pos_iff.2 ⟨_,hm,by simp⟩
 | test aH aR aA _ aX=>
  rename_i j k x ms s _;intro hm;have m':=cj _ hm x (by rw [i9];exact aH) aR;have EC:(k:Int)∈order:=by rw [← aA];split;exact m'.2;exact m'.1
  have ay:=dP j x aH aR;have:=ab2 hm (k:=(k:Int)) (by rw [← aA];split<;>omega);have:=aX EC;omega
theorem ab3 {g:List bw} (av:nR g) {v:Nat} {ms:List Int} {s:Nat} (h:kp g v 0 ms s):kp (small g) v 0 ms s∧s<(small g).length:=by
 have pn:=av.pos;have lI:=BO av;obtain ⟨BQ,jb⟩:=pC g 0;obtain ⟨a0,qt,-,ze⟩:=tV av (b:=0) ag;have hw:=ZB av h a0 qt;have nS:small g=(meet (b3 0 g).2 (g.length+1) [] a0).reverse.map (hB (b3 0 g).2 (meet (b3 0 g).2 (g.length+1) [] a0)):=by
  unfold small;simp only [d5,qt,ae'];rfl
 have sH:ld g.length []:=⟨ar5,fun _ h=>by cases h⟩;have kK:=(sF lI (g.length+1) a0 ag ag [] (by rw [jb];exact sH)).1;have JU:=Et lI (g.length+1) a0 ag ag [];have fX:=(tW lI (g.length+1) a0 ag ag []).2;have JV:(b3 0 g).2[a0]? = some (b3 0 g).2[a0]:=f7 ag;have aJ:=vo (k:=g.length) (order:=[]) JV;rw [d9 ba] at aJ;rw [nS];generalize eJ:(if (b3 0 g).2[a0].atom≥0 then meet (b3 0 g).2 g.length (meet (b3 0 g).2 g.length [] (b3 0 g).2[a0].yes) (b3 0 g).2[a0].no else [])=M at aJ;generalize meet (b3 0 g).2 (g.length+1) [] (a0:Int)=order at *;have cj:∀ y∈order,rD (b3 0 g).2 order y:=fun y ax=>(JU y ax).elim (fun h=>by cases h) id
 have kj:order[order.length-1]? = some (a0:Int):=by
  rw [aJ,f8,i0,af7,aq0,af0 (g9 _),an6];rfl
 have aD:=qm kK.nodup kj;have z8:1≤order.length:=by rw [aJ,f8,i0];omega
 refine ⟨ZC kK cj hw fX 0 (by rw [aD];omega),?_⟩;have U:=hw.count lI cj fX;have ad:order.countP (fun x=>decide ((a0:Int)≤x))≤order.length:=List.countP_le_length;rw [f0,ar8];omega
theorem ab4 {g:List bw} (av:nR g) {A:Nat} (h7:∀ x∈g,x.atom<(A:Int)):∀ y∈small g,y.atom<(A:Int):=by
 have pn:=av.pos;have lI:=BO av;obtain ⟨BQ,jb⟩:=pC g 0;obtain ⟨a0,qt,-,ze⟩:=tV av (b:=0) ag;have nS:small g=(meet (b3 0 g).2 (g.length+1) [] a0).reverse.map (hB (b3 0 g).2 (meet (b3 0 g).2 (g.length+1) [] a0)):=by
  unfold small;simp only [d5,qt,ae'];rfl
 have sH:ld g.length []:=⟨ar5,fun _ h=>by cases h⟩;have kK:=(sF lI (g.length+1) a0 ag ag [] (by rw [jb];exact sH)).1;intro y ax;rw [nS] at ax;obtain ⟨z,bE,rfl⟩:=ag0.1 ax;have mm:=kK.lt z (List.mem_reverse.1 bE);obtain ⟨x,ab⟩:∃ x,g[z.toNat]? = some x:=⟨_,f7 ag⟩;have az:=xD av ab;have key:((b3 0 g).2.getD z.toNat default).atom=x.atom:=by
  rw [d5,az,ae'];unfold j4;split<;>rfl
 unfold hB;simp only;have:=h7 x (d6 ab);split<;>simp only [key]<;>exact this
theorem ab5 {g:List bw} {v:Nat} {ms:List Int} {s:Nat} (h:kp g v 0 ms s) (ar:s<g.length):(leads g v).2=s∧(g.getD (leads g v).1.toNat default).ms=ms:=by
 obtain ⟨U,ad⟩:=h.leads g.length 0 ag;unfold leads;exact ⟨by have:=U;rw [af8] at this;exact this,ad ar⟩
theorem ab6 {p:bR} {n:Int} (he:hc p n=0):vd p n (lJ p n)=true:=by
 obtain ⟨eD,gj,de,eM,fJ⟩:=vA he;have kX:=E7 n he;have n4:=Ez (ca p n).length (c' p n (ca p n)) _ (e6 (bT p) (ca p n)) (g9 _) (fun u hu=>xP hu);have m3:=Es (ca p n).length (c' p n (ca p n)) _ (e6 (bT p) (ca p n)) (g9 _);unfold lJ;rw [xi] at kX ⊢;generalize fF (ca p n).length (c' p n (ca p n)) (e6 (bT p) (ca p n))=t at *;unfold vd;simp only;rw [f9,ag6,ag6];constructor
 ·intro x ab
  exact g7 (ab4 kX (JT t [] m3 (fun _ h=>by cases h)) x ab)
 ·intro v au
  have hw:=(EA t []).walk v;obtain ⟨U,ad⟩:=ab3 kX hw;rw [(ab5 U ad).2,n4 v au];exact beq_iff_eq.2 C
theorem JW:∀ (k:Nat) (l:List bw) (i:Nat),(fu i l).drop k=fu (i+k) (l.drop k)
  | 0,l,i=>rfl
  | k+1,[],i=>by rw [fu,at5,at5,fu]
  | k+1,x::r,i=>by
    rw [fu,ao3];simp only [ao3];rw [JW k r (i+1),show i+(k+1)=i+1+k by omega]
theorem QV {g:List bw} {j:Nat} {x:bw} (ab:g[j]? = some x):(fu 0 g).getD j 0=if x.atom≥0 then 1+max ((fu 0 g).getD (j+1+(x.no.toNat-(j+1))) 0) ((fu 0 g).getD (j+1+(x.yes.toNat-(j+1))) 0) else 0:=by
 have aw:j<g.length:=(t7.1 ab).1;have ay:g.drop j=x::g.drop (j+1):=by
  rw [List.drop_eq_getElem_cons aw,(t7.1 ab).2]
 have U:=JW j g 0;have ad:=JW (j+1) g 0;rw [af8] at U ad;rw [ay,fu] at U;have e:∀ k,(fu 0 g).getD (j+1+k) 0=(fu (j+1) (g.drop (j+1))).getD k 0:=fun k=>by
  rw [← ad,d5,d5,ao6]
 rw [e,e,show (fu 0 g).getD j 0=((fu 0 g).drop j).getD 0 0 by rw [d5,d5,ao6,ao'],U];rfl
theorem QW:∀ {g:List bw} {len i:Nat},(∀ (k:Nat) (x:bw),g[k]? = some x→iA len (i+k) x=true)→m1 len i g=true
  | [],_,_,_=>by rw [m1]
  | x::r,len,i,h=>by
    rw [m1,f9];refine ⟨h 0 x C,QW fun k y ax=>?_⟩;have:=h (k+1) y (by simpa using ax);rwa [show i+(k+1)=i+1+k by omega] at this
def JX (N:List bw) (order:List Int):Prop:=∀ (i:Nat) (y:Int) (x:bw),order[i]? = some y→N[y.toNat]? = some x→x.atom≥0→x.no∈order.take i∧x.yes∈order.take i
theorem JY {N:List bw} (dP:Down N):∀ (k a:Nat),a<N.length→N.length-a≤k→∀ order:List Int,JX N order→JX N (meet N k order a)
  | 0,a,U,ad,_,_=>by omega
  | k+1,a,U,ad,order,ah=>by
    obtain ⟨x,ab⟩:∃ x,N[a]? = some x:=⟨_,f7 U⟩;rw [vo ab];cases aF:order.contains (a:Int) with
    | true=>rw [g6 C];exact ah
    | false=>
      rw [d9 ba];have key:JX N (if x.atom≥0 then meet N k (meet N k order x.yes) x.no else order)∧(x.atom≥0→x.no∈(if x.atom≥0 then meet N k (meet N k order x.yes) x.no else order)∧x.yes∈(if x.atom≥0 then meet N k (meet N k order x.yes) x.no else order)):=by
        by_cases aR:x.atom≥0
        · rw [g6 aR]
          obtain ⟨d1,d2,d3,d4⟩:=dP a x ab aR;obtain ⟨u,hu⟩:∃ u:Nat,x.yes=u:=⟨x.yes.toNat,by omega⟩;obtain ⟨z,bE⟩:∃ z:Nat,x.no=z:=⟨x.no.toNat,by omega⟩;rw [hu,bE];have ha:=JY dP k u ag ag order ah;have dk:=JY dP k z ag ag _ ha;have s1:=tW dP k u ag ag order;have s2:=tW dP k z ag ag (meet N k order u);exact ⟨dk,fun _=>⟨s2.2,s2.1 _ s1.2⟩⟩
        · rw [d9 aR];exact ⟨ah,fun h=>absurd h aR⟩
      generalize (if x.atom≥0 then meet N k (meet N k order x.yes) x.no else order)=M at key;intro i y z aN bE QX;by_cases aw:i<M.length
      · rw [af' aw] at aN
        rw [ah6 ag];exact key.1 i y z aN bE QX
      · have l5:=(t7.1 aN).1
        rw [f8,i0,af7] at l5;have bL:i=M.length:=by omega
        subst bL;rw [af0 (g9 _),an6,List.getElem?_cons_zero,al'.injEq] at aN;subst aN;rw [i9,ab,al'.injEq] at bE;subst bE;rw [ah6 (g9 _),ae6];exact key.2 QX
structure Fh (g:List bw):Prop where
 leaf:∀ x∈g,¬ x.atom≥0→x.atom = -1∧x.no=0∧x.yes=0∧x.ms.length≤16∧lz x.ms=true
 test:∀ x∈g,x.atom≥0→x.atom<7∧x.ms.length=0
theorem ab7 {g:List bw} (av:nR g) (az:Fh g) (aE:g.length≤300):hn (small g)=true:=by
 have pn:=av.pos;have lI:=BO av;obtain ⟨BQ,jb⟩:=pC g 0;obtain ⟨a0,qt,-,ze⟩:=tV av (b:=0) ag;have nS:small g=(meet (b3 0 g).2 (g.length+1) [] a0).reverse.map (hB (b3 0 g).2 (meet (b3 0 g).2 (g.length+1) [] a0)):=by
  unfold small;simp only [d5,qt,ae'];rfl
 have sH:ld g.length []:=⟨ar5,fun _ h=>by cases h⟩;have kK:=(sF lI (g.length+1) a0 ag ag [] (by rw [jb];exact sH)).1;have ab8:=JY lI (g.length+1) a0 ag ag [] (fun i y x h=>by simp at h);have fX:=(tW lI (g.length+1) a0 ag ag []).2;rw [jb] at kK;rw [nS];generalize meet (b3 0 g).2 (g.length+1) [] (a0:Int)=order at *;have hlen:=kK.len;have z8:1≤order.length:=by
  cases order with
  | nil=>cases fX
  | cons _ _=>simp
 have bM:(order.reverse.map (hB (b3 0 g).2 order)).length=order.length:=by rw [f0,ar8]
 unfold hn;rw [bM,g7 z8,g7 (by omega:order.length≤300),f5,f5];refine QW fun q y ax=>?_
 rw [af8];have QY:q<order.length:=by
  have:=(t7.1 ax).1;omega
 rw [af3,at3 QY] at ax;obtain ⟨z,bE⟩:∃ z,order[order.length-1-q]? = some z:=⟨_,f7 ag⟩;rw [bE,Option.map_some,al'.injEq] at ax;subst ax;have mm:=kK.lt z (d6 bE);obtain ⟨x,ab⟩:∃ x,g[z.toNat]? = some x:=⟨_,f7 ag⟩;have xR:=d6 ab;have eM:=xD av ab;have h4:hB (b3 0 g).2 order z=if (j4 (b3 0 g).1 x).atom≥0 then { (j4 (b3 0 g).1 x) with no:=(order.length:Int)-1-placeOf order (j4 (b3 0 g).1 x).no,yes:=(order.length:Int)-1-placeOf order (j4 (b3 0 g).1 x).yes } else j4 (b3 0 g).1 x:=by
  unfold hB;simp only [d5,eM,ae']
 rw [h4];by_cases aR:x.atom≥0
 ·obtain ⟨t1,t2⟩:=az.test x xR aR
  have Cl:(j4 (b3 0 g).1 x).atom=x.atom:=by unfold j4;split<;>rfl
  have ab9:(j4 (b3 0 g).1 x).ms=x.ms:=by unfold j4;split<;>rfl
  obtain ⟨ha,dk⟩:=ab8 _ z _ bE eM (by rw [Cl];exact aR);have gH:∀ c:Int,c∈order.take (order.length-1-q)→(q:Int)<(order.length:Int)-1-placeOf order c∧(order.length:Int)-1-placeOf order c<order.length:=fun c aF=>by
   obtain ⟨i,aN⟩:=ag2 aF;have l5:=(t7.1 aN).1;rw [ae8] at l5;rw [List.getElem?_take_of_lt ag] at aN;rw [qm kK.nodup aN];omega
  have jI:=gH _ ha;have u5:=gH _ dk;rw [g6 (by rw [Cl];exact aR)];refine (kk (by show (j4 (b3 0 g).1 x).atom ≠ -1;rw [Cl];omega)).2 ⟨?_,?_,jI.1,jI.2,u5.1,u5.2,?_⟩
  ·show 0≤(j4 (b3 0 g).1 x).atom;rw [Cl];exact aR
  ·show (j4 (b3 0 g).1 x).atom<7;rw [Cl];exact t1
  ·show (j4 (b3 0 g).1 x).ms.length=0;rw [ab9];exact t2
 ·have ar:j4 (b3 0 g).1 x=x:=by unfold j4;rw [d9 aR]
  obtain ⟨vc,fE,aeJ,aei,ad6⟩:=az.leaf x xR aR;rw [ar,d9 aR];exact (m5 vc).2 ⟨fE,aeJ,aei,ad6⟩
theorem JZ {A:Nat} (h7:A≤7):∀ (t:bI) (L:List bw),t.rC A→t.all (fun ms=>ms.length≤16∧lz ms=true)→Fh L→Fh (bI.laid L t)
  | .leaf ms,L,_,hm,bM=>by
    rw [bI.laid];refine ⟨fun x ab=>?_,fun x ab=>?_⟩
    · rcases ae4.1 ab with ab|ab
      · exact bM.leaf x ab
      · rw [t6.1 ab];exact fun _=>⟨rfl,rfl,rfl,hm.1,hm.2⟩
    · rcases ae4.1 ab with ab|ab
      · exact bM.test x ab
      · rw [t6.1 ab];exact fun h=>absurd h (by show ¬ ((-1:Int)≥0);omega)
  | .test i a b,L,aL,hm,bM=>by
    have la:bI.laid L (.test i a b)=(bI.laid (bI.laid (L++[⟨i,0,0,[]⟩]) a) b).set L.length ⟨i,(L.length:Int)+1,((bI.laid (L++[⟨i,0,0,[]⟩]) a).length:Int),[]⟩:=rfl;rw [bI.rC] at aL;have U:Fh (L++[⟨i,0,0,[]⟩]):=by
      refine ⟨fun x ab=>?_,fun x ab=>?_⟩
      · rcases ae4.1 ab with ab|ab
        · exact bM.leaf x ab
        · rw [t6.1 ab];exact fun h=>absurd (an8 i) h
      · rcases ae4.1 ab with ab|ab
        · exact bM.test x ab
        · rw [t6.1 ab];exact fun _=>⟨by show (i:Int)<7;omega,rfl⟩
    have ad:=JZ h7 b _ aL.2.2 hm.2 (JZ h7 a _ aL.2.1 hm.1 U);rw [la];refine ⟨fun x ab=>?_,fun x ab=>?_⟩
    · rcases al0 ab with ab|rfl
      · exact ad.leaf x ab
      · exact fun h=>absurd (an8 i) h
    · rcases al0 ab with ab|rfl
      · exact ad.test x ab
      · exact fun _=>⟨by show (i:Int)<7;omega,rfl⟩
theorem aca {x:Int}:∀ {l:List Int},0≤x→(∀ y∈l,x<y)→lz l=true→lz (x::l)=true
  | [],h,_,_=>by rw [lz];exact g7 h
  | y::r,h,ad,aj=>by
    rw [lz,g7 h,g7 (ad y i8),aj];rfl
theorem QZ (n:Int) (l:List ao) (v:Nat):∀ (ms:List hS) (i:Nat),lz (qd n l v i ms)=true∧∀ y∈qd n l v i ms,(i:Int)≤y
  | [],i=>⟨rfl,fun _ h=>by cases h⟩
  | m::r,i=>by
    obtain ⟨U,ad⟩:=QZ n l v r (i+1);rw [qd];split
    · refine ⟨aca ag (fun y ax=>by have:=ad y ax;omega) U,fun y ax=>?_⟩
      rcases af1.1 ax with rfl|ax
      · exact Int.le_refl _
      · have:=ad y ax;omega
    · exact ⟨U,fun y ax=>by have:=ad y ax;omega⟩
theorem acb {p:bR} {n:Int} (he:hc p n=0):hn (lJ p n)=true:=by
 obtain ⟨eD,gj,de,eM,fJ⟩:=vA he;have kX:=E7 n he;have xB:=(xA eD).1;have ua:2^(ca p n).length≤2^7:=ah7 ag gj;have fs:=B' (bT p) (ca p n);have qI:=xj (ca p n).length (c' p n (ca p n)) _ (e6 (bT p) (ca p n)) (g9 _);have m3:=Es (ca p n).length (c' p n (ca p n)) _ (e6 (bT p) (ca p n)) (g9 _);have oK:=BN (P:=fun ms=>ms.length≤16∧lz ms=true) (ca p n).length (c' p n (ca p n)) ⟨by simp,rfl⟩ (fun v=>⟨by have:=xC n (ca p n) v p.methods 0;unfold c';omega,(QZ n (ca p n) v p.methods 0).1⟩) _ (e6 (bT p) (ca p n)) (g9 _);unfold lJ;rw [xi] at kX ⊢;generalize fF (ca p n).length (c' p n (ca p n)) (e6 (bT p) (ca p n))=t at *;have lp:=qf t [];rw [af7] at lp;exact ab7 kX (JZ gj t [] m3 oK ⟨(fun _ h=>by cases h),(fun _ h=>by cases h)⟩) ag
inductive ug (g:List bw):Nat→Nat→Prop
 | leaf {j:Nat} {x:bw}:g[j]? = some x→¬ x.atom≥0→ug g j 0
 | test {j k l:Nat} {x:bw} {a b:Nat}:g[j]? = some x→x.atom≥0→x.no=(k:Int)→x.yes=(l:Int)→ug g k a→ug g l b→ug g j (1+max a b)
theorem ug.fu {g:List bw} (av:nR g) {j a:Nat} (h:ug g j a):(Go.Proofs.YtnafpeohfbglmaaGreat.fu 0 g).getD j 0=(a:Int):=by
 induction h with
 | leaf aH aR=>rw [QV aH,d9 aR];rfl
 | test aH aR U ad _ _ IJ IK=>
  rename_i j k l x a b _ _;have ay:=av.eU j x aH aR;rw [QV aH,g6 aR,show j+1+(x.no.toNat-(j+1))=k by omega,show j+1+(x.yes.toNat-(j+1))=l by omega,IJ,IK];omega
theorem iV.nv {g:List bw}:∀ {t:bI} {en j:Nat},iV g t en j→ug g j t.kC
  | .leaf ms,en,j,h=>by
    rw [iV] at h;exact ug.leaf h.2 (by show ¬ ((-1:Int)≥0);omega)
  | .test i a b,en,j,h=>by
    rw [iV] at h;obtain ⟨-,x,y,U,ad,aj⟩:=h;rw [bI.kC];exact ug.test U (an8 i) C C ad.nv aj.nv
theorem Q0 {g:List bw} (av:nR g):∃ (a0:Nat) (order:List Int),(b3 0 g).1[0]? = some (a0:Int)∧small g=order.reverse.map (hB (b3 0 g).2 order)∧ld g.length order∧(∀ y∈order,rD (b3 0 g).2 order y)∧(a0:Int)∈order∧placeOf order (a0:Int)=(order.length:Int)-1∧order=meet (b3 0 g).2 (g.length+1) [] a0∧a0<g.length:=by
 have pn:=av.pos;have lI:=BO av;obtain ⟨BQ,jb⟩:=pC g 0;obtain ⟨a0,qt,-,ze⟩:=tV av (b:=0) ag;have sH:ld g.length []:=⟨ar5,fun _ h=>by cases h⟩;have kK:=(sF lI (g.length+1) a0 ag ag [] (by rw [jb];exact sH)).1;have JU:=Et lI (g.length+1) a0 ag ag [];have fX:=(tW lI (g.length+1) a0 ag ag []).2;have JV:(b3 0 g).2[a0]? = some (b3 0 g).2[a0]:=f7 ag;have aJ:=vo (k:=g.length) (order:=[]) JV;rw [d9 ba] at aJ;rw [jb] at kK;refine ⟨a0,meet (b3 0 g).2 (g.length+1) [] a0,qt,?_,kK,fun y ax=>(JU y ax).elim (fun h=>by cases h) id,fX,?_,rfl,ze⟩
 ·unfold small
  simp only [d5,qt,ae'];rfl
 ·generalize (if (b3 0 g).2[a0].atom≥0 then meet (b3 0 g).2 g.length (meet (b3 0 g).2 g.length [] (b3 0 g).2[a0].yes) (b3 0 g).2[a0].no else [])=M at aJ
  generalize meet (b3 0 g).2 (g.length+1) [] (a0:Int)=order at *;have kj:order[order.length-1]? = some (a0:Int):=by
   rw [aJ,f8,i0,af7,aq0,af0 (g9 _),an6];rfl
  have z8:1≤order.length:=by rw [aJ,f8,i0];omega
  rw [qm kK.nodup kj];omega
theorem J0 {N:List bw} (dP:Down N) {S:List Int} (cc:∀ y∈S,rD N S y):∀ (k a:Nat),a<N.length→N.length-a≤k→(a:Int)∈S→∀ order:List Int,(∀ y∈order,y∈S)→∀ y∈meet N k order a,y∈S
  | 0,a,U,ad,_,_,_=>by omega
  | k+1,a,U,ad,aR,order,ah=>by
    obtain ⟨x,ab⟩:∃ x,N[a]? = some x:=⟨_,f7 U⟩;rw [vo ab];split
    · exact ah
    · intro y ax
      rcases ae4.1 ax with ax|ax
      · split at ax
        · rename_i de
          obtain ⟨d1,d2,d3,d4⟩:=dP a x ab de;have aA:=cc _ aR x (by rw [i9];exact ab) de;obtain ⟨u,hu⟩:∃ u:Nat,x.yes=u:=⟨x.yes.toNat,by omega⟩;obtain ⟨z,bE⟩:∃ z:Nat,x.no=z:=⟨x.no.toNat,by omega⟩;rw [hu,bE] at ax aA;exact J0 dP cc k z ag ag aA.1 _ (J0 dP cc k u ag ag aA.2 _ ah) y ax
        · exact ah y ax
      · rw [t6.1 ax];exact aR
def mg:bI→List Nat→Prop
 | .leaf _,vs=>vs≠[]
 | .test i a b,vs=>mg a (fq i vs)∧mg b (fp i vs)
theorem mg.ne:∀ {t:bI} {vs:List Nat},mg t vs→vs≠[]
  | .leaf _,vs,h=>h
  | .test i a b,vs,h=>fun e=>by
    rw [mg] at h;refine h.1.ne ?_;rw [e];rfl
theorem Fi (A:Nat) (h:Nat→List Int):∀ (n:Nat) (vs:List Nat),vs.length≤n→vs≠[]→(∀ u∈vs,u<2^A)→mg (fF A h vs) vs
  | n,vs,az,cE,h7=>by
    have lf:=y0 A h vs;cases aR:nO h vs with
    | true=>
      rw [aR,g6 C] at lf;rw [lf,mg];exact cE
    | false=>
      rw [aR,d9 ba] at lf;obtain ⟨o,ah⟩:=Ia (A:=A) (h:=h) (vs:=vs) h7 aR (fF A h);rw [ah,ae'] at lf;rw [lf];refine D6 (Pr:=fun t=>mg t vs) _ none (fun _ h=>by cases h) (fun i _ he=>?_) o ah;have aE:=xh he;rw [Bool.or_eq_false_iff] at he;cases n with
      | zero=>omega
      | succ n=>
        rw [mg];exact ⟨Fi A h n (fq i vs) ag (fun e=>by rw [e] at he;cases he.2) (fun u hu=>h7 u (ae3.1 hu).1),Fi A h n (fp i vs) ag (fun e=>by rw [e] at he;cases he.1) (fun u hu=>h7 u (ae3.1 hu).1)⟩
inductive AtZ:bI→List Nat→bI→List Nat→List Nat→Prop
 | here {t:bI} {vs:List Nat}:AtZ t vs t vs []
 | no {t a b:bI} {i:Nat} {vs ws known:List Nat}:AtZ t vs (.test i a b) ws known→AtZ t vs a (fq i ws) (known++[i])
 | yes {t a b:bI} {i:Nat} {vs ws known:List Nat}:AtZ t vs (.test i a b) ws known→AtZ t vs b (fp i ws) (known++[i])
theorem AtZ.parts {t u:bI} {vs ws known:List Nat} (h:AtZ t vs u ws known) (aD:mg t vs):mg u ws:=by
 induction h with
 | here=>exact aD
 | no _ aX=>have:=aX aD;rw [mg] at this;exact this.1
 | yes _ aX=>have:=aX aD;rw [mg] at this;exact this.2
theorem AtZ.agree {t u:bI} {vs ws known:List Nat} (h:AtZ t vs u ws known):∀ i∈known,∀ v∈ws,∀ w∈ws,v.testBit i=w.testBit i:=by
 induction h with
 | here=>intro i aN;cases aN
 | no _ aX=>
  intro j aH v au w hw;obtain ⟨v1,v2⟩:=ae3.1 au;obtain ⟨dn,ig⟩:=ae3.1 hw;rcases ae4.1 aH with aH|aH
  ·exact aX j aH v v1 w dn
  ·rw [t6.1 aH]
   simp only [ai0] at v2 ig;rw [v2,ig]
 | yes _ aX=>
  intro j aH v au w hw;obtain ⟨v1,v2⟩:=ae3.1 au;obtain ⟨dn,ig⟩:=ae3.1 hw;rcases ae4.1 aH with aH|aH
  ·exact aX j aH v v1 w dn
  ·rw [t6.1 aH]
   rw [v2,ig]
theorem AtZ.once {t a b:bI} {i:Nat} {vs ws known:List Nat} (h:AtZ t vs (.test i a b) ws known) (aD:mg t vs):i∉known:=fun aN=>by
 have U:=h.parts aD;rw [mg] at U;obtain ⟨v,au⟩:=ao8 _ U.1.ne;obtain ⟨w,hw⟩:=ao8 _ U.2.ne;obtain ⟨v1,v2⟩:=ae3.1 au;obtain ⟨dn,ig⟩:=ae3.1 hw;have:=h.agree i aN v v1 w dn;rw [ig] at this;rw [this] at v2;cases v2
theorem AtZ.both {t a b:bI} {i:Nat} {vs ws known:List Nat} (h:AtZ t vs (.test i a b) ws known) (aD:mg t vs) (v:Nat):∃ u∈ws,u.testBit i = !v.testBit i:=by
 have U:=h.parts aD;rw [mg] at U;cases an:v.testBit i with
 | true=>
  obtain ⟨u,hu⟩:=ao8 _ U.1.ne;obtain ⟨oR,oS⟩:=ae3.1 hu;exact ⟨u,oR,by simpa using oS⟩
 | false=>
  obtain ⟨u,hu⟩:=ao8 _ U.2.ne;obtain ⟨oR,oS⟩:=ae3.1 hu;exact ⟨u,oR,by simpa using oS⟩
def Rp (g:List bw):bI→Nat→Prop
 | .leaf ms,j=>∃ x,g[j]? = some x∧¬ x.atom≥0∧x.ms=ms
 | .test i a b,j=>∃ (x:bw) (k l:Nat),g[j]? = some x∧x.atom=(i:Int)∧x.no=(k:Int)∧x.yes=(l:Int)∧Rp g a k∧Rp g b l
theorem iV.J1 {g:List bw}:∀ {t:bI} {en j:Nat},iV g t en j→Rp g t j
  | .leaf ms,en,j,h=>by
    rw [iV] at h;rw [Rp];exact ⟨_,h.2,by show ¬ ((-1:Int)≥0);omega,rfl⟩
  | .test i a b,en,j,h=>by
    rw [iV] at h;obtain ⟨-,x,y,U,ad,aj⟩:=h;rw [Rp];exact ⟨_,x,y,U,rfl,rfl,rfl,ad.J1,aj.J1⟩
theorem J2 {g:List bw} (av:nR g):∀ {t:bI} {j a:Nat},Rp g t j→(b3 0 g).1[j]? = some (a:Int)→Rp (b3 0 g).2 t a
  | .leaf ms,j,a,h,ab=>by
    rw [Rp] at h ⊢;obtain ⟨x,U,ad,aj⟩:=h;obtain ⟨b,cd,-,ek⟩:=BU g 0 j _ ab;have az:=xD av U;unfold j4 at az;rw [d9 ad] at az;have:b=a:=by omega
    subst this;exact ⟨x,ek.trans az,ad,aj⟩
  | .test i t u,j,a,h,ab=>by
    rw [Rp] at h ⊢;obtain ⟨x,k,l,U,ad,aj,a',bz,fG⟩:=h;obtain ⟨b,cd,-,ek⟩:=BU g 0 j _ ab;have az:=xD av U;have aR:x.atom≥0:=by omega
    unfold j4 at az;rw [g6 aR] at az;have:b=a:=by omega
    subst this;have ay:=av.eU j x U aR;obtain ⟨p,aD,-,-⟩:=tV av (b:=k) ag;obtain ⟨q,bk,-,-⟩:=tV av (b:=l) ag;refine ⟨_,p,q,ek.trans az,ad,?_,?_,J2 av bz aD,J2 av fG bk⟩
    · simp only;rw [aj,i9,d5,aD];rfl
    · simp only;rw [a',i9,d5,bk];rfl
theorem acd {N:List bw} {n:Nat} {order:List Int} (ah:ld n order) (cj:∀ y∈order,rD N order y):∀ {t:bI} {j q:Nat},Rp N t j→(j:Int)∈order→(q:Int)=(order.length:Int)-1-placeOf order (j:Int)→Rp (order.reverse.map (hB N order)) t q:=by
 have de:∀ (j:Nat) (q:Nat),(j:Int)∈order→(q:Int)=(order.length:Int)-1-placeOf order (j:Int)→(order.reverse.map (hB N order))[q]? = some (hB N order (j:Int)):=fun j q hm bk=>by
  obtain ⟨i,aN⟩:=ag2 hm;have aD:=qm ah.nodup aN;have l5:=(t7.1 aN).1;rw [aD] at bk;rw [af3,at3 ag,show order.length-1-q=i by omega,aN];rfl
 have h4:∀ (j:Nat) (x:bw),N[j]? = some x→hB N order (j:Int)=if x.atom≥0 then { x with no:=(order.length:Int)-1-placeOf order x.no,yes:=(order.length:Int)-1-placeOf order x.yes } else x:=fun j x aH=>by
  unfold hB;simp only [i9,d5,aH,ae']
 have gH:∀ c:Nat,(c:Int)∈order→∃ q:Nat,(q:Int)=(order.length:Int)-1-placeOf order (c:Int):=fun c aF=>by
  obtain ⟨i,aN⟩:=ag2 aF;have l5:=(t7.1 aN).1;rw [qm ah.nodup aN];exact ⟨order.length-1-i,by omega⟩
 intro t
 induction t with
 | leaf ms=>
  intro j q h hm bk;rw [Rp] at h ⊢;obtain ⟨x,U,ad,aj⟩:=h;have e:=de j q hm bk;rw [h4 j x U,d9 ad] at e;exact ⟨x,e,ad,aj⟩
 | test i a b pA xk=>
  intro j q h hm bk;rw [Rp] at h ⊢;obtain ⟨x,k,l,U,ad,aj,a',bz,fG⟩:=h;have aR:x.atom≥0:=by omega
  have e:=de j q hm bk;rw [h4 j x U,g6 aR] at e;have m':=cj _ hm x (by rw [i9];exact U) aR;rw [aj,a'] at m';obtain ⟨u,hu⟩:=gH k m'.1;obtain ⟨w,hw⟩:=gH l m'.2;exact ⟨_,u,w,e,ad,(by simp only;rw [aj,hu]),(by simp only;rw [a',hw]),pA bz m'.1 hu,xk fG m'.2 hw⟩
theorem J3 {p:bR} {n:Int} (he:hc p n=0):Rp (lJ p n) (tN p n) 0:=by
 have kX:=E7 n he;unfold lJ;obtain ⟨a0,order,qt,nS,kK,cj,fX,aD,-,-⟩:=Q0 kX;rw [nS];exact acd kK cj (J2 kX (EA (tN p n) []).J1 qt) fX (by rw [aD];omega)
inductive gD (g:List bw) (v:Nat):Nat→List Nat→Nat→Prop
 | leaf {j:Nat} {x:bw}:g[j]? = some x→¬ x.atom≥0→gD g v j [] j
 | test {j k e:Nat} {x:bw} {w:List Nat}:g[j]? = some x→x.atom≥0→(if v.testBit x.atom.toNat then x.yes else x.no)=(k:Int)→gD g v k w e→gD g v j (j::w) e
theorem gD.J4 {g:List bw} {v j:Nat} {w:List Nat} {e:Nat} (h:gD g v j w e):∀ {w':List Nat} {e':Nat},gD g v j w' e'→w'=w∧e'=e:=by
 induction h with
 | leaf aH aR=>
  intro w' e' eL;cases eL with
  | leaf _ _=>exact ⟨rfl,rfl⟩
  | test U ad _ _=>rw [aH] at U;cases U;exact absurd ad aR
 | test aH aR aA _ aX=>
  intro w' e' eL;cases eL with
  | leaf U ad=>rw [aH] at U;cases U;exact absurd aR ad
  | test U ad aj a'=>
   rw [aH] at U;cases U;rw [aA] at aj;have:=aq4.inj aj;subst this;obtain ⟨rfl,rfl⟩:=aX a';exact ⟨rfl,rfl⟩
theorem Rp.Cm {g:List bw} (v:Nat):∀ {t:bI} {j:Nat},Rp g t j→∃ w e,gD g v j w e∧(g.getD e default).ms=(oI t v).1
  | .leaf ms,j,h=>by
    rw [Rp] at h;obtain ⟨x,U,ad,aj⟩:=h;exact ⟨[],j,gD.leaf U ad,by rw [d5,U,ae',aj,oI]⟩
  | .test i a b,j,h=>by
    rw [Rp] at h;obtain ⟨x,k,l,U,ad,aj,a',bz,fG⟩:=h;simp only [oI];cases an:v.testBit i with
    | true=>
      obtain ⟨w,e,hs,m9⟩:=fG.Cm v;exact ⟨j::w,e,gD.test U ag (by rw [ad,i9,an,g6 C,a']) hs,by rw [g6 C];exact m9⟩
    | false=>
      obtain ⟨w,e,hs,m9⟩:=bz.Cm v;exact ⟨j::w,e,gD.test U ag (by rw [ad,i9,an,d9 ba,aj]) hs,by rw [d9 ba];exact m9⟩
def j6 (g:List bw) (n:Nat):Nat:=(g.getD n default).atom.toNat
def zz (g:List bw) (views:List Nat) (v:Nat) (w:List Nat) (i n:Nat):Prop:=
 j6 g n∉(w.take i).map (j6 g)∧∃ y∈views,(∀ m∈w.take i,y.testBit (j6 g m)=v.testBit (j6 g m))∧y.testBit (j6 g n) = !v.testBit (j6 g n)∧∃ w' e',gD g y 0 w' e'∧w'.take (i+1)=w.take (i+1)∧i<w'.length
theorem J5 {g:List bw} {views:List Nat} {t0:bI} (aD:mg t0 views):∀ (u:bI) (ws known kq:List Nat) (j:Nat),AtZ t0 views u ws known→Rp g u j →
    (∀ x∈ws,x∈views∧∀ w e,gD g x j w e→gD g x 0 (kq++w) e)→kq.map (j6 g)=known→∀ v∈ws,∀ w e,gD g v j w e→∀ i n,w[i]? = some n→zz g views v (kq++w) (kq.length+i) n
  | .leaf ms,ws,known,kq,j,h7,dB,fw,bf,v,au,w,e,hw,i,n,aN=>by
    rw [Rp] at dB;obtain ⟨x,U,ad,-⟩:=dB;obtain ⟨rfl,-⟩:=(gD.leaf (v:=v) U ad).J4 hw;simp at aN
  | .test a t u,ws,known,kq,j,h7,dB,fw,bf,v,au,w,e,hw,i,n,aN=>by
    have HN:=dB;rw [Rp] at dB;obtain ⟨x,k,l,U,ad,aj,a',bz,fG⟩:=dB;have Q1:j6 g j=a:=by unfold j6;rw [d5,U,ae',ad,i9]
    cases hw with
    | leaf g1 g2=>rw [U] at g1;cases g1;omega
    | test g1 g2 g3 g4=>
      rename_i k' kS w';rw [U] at g1;cases g1;cases i with
      | zero=>
        simp at aN;subst aN;rw [ao'];unfold zz;rw [List.take_left,bf,Q1];refine ⟨h7.once aD,?_⟩;obtain ⟨y,pH,pI⟩:=h7.both aD v;obtain ⟨Q2,zk,uh,-⟩:=HN.Cm y;have z2:=(fw y pH).2 Q2 zk uh;have ace:∃ r,Q2=j::r:=by
          cases uh with
          | leaf dT dh=>rw [U] at dT;cases dT;omega
          | test _ _ _ _=>exact ⟨_,rfl⟩
        obtain ⟨r,rfl⟩:=ace;refine ⟨y,(fw y pH).1,fun m hm=>h7.agree _ (by rw [← bf];exact List.mem_map_of_mem hm) y pH v au,pI,_,zk,z2,?_,?_⟩
        · rw [aB1,aB1,ag8 ag,show kq.length+1-kq.length=1 by omega];rfl
        · rw [f8,i0];omega
      | succ i=>
        rw [ak0] at aN;have step:∀ (s:bI) (aZ:List Nat) (q:Nat),AtZ t0 views s aZ (known++[a])→Rp g s q→(∀ x∈aZ,x∈ws∧∀ w e,gD g x q w e→gD g x j (j::w) e)→v∈aZ→gD g v q w' e→(∀ (vJ:List Nat),(∀ x∈aZ,x∈views∧∀ w e,gD g x q w e→gD g x 0 (vJ++w) e)→vJ.map (j6 g)=known++[a]→zz g views v (vJ++w') (vJ.length+i) n)→zz g views v (kq++j::w') (kq.length+(i+1)) n:=fun s aZ q ar aC bE zA adK aX=>by
          have:=aX (kq++[j]) (fun x ab=>⟨(fw x (bE x ab).1).1,fun w e h=>by
            have:=(fw x (bE x ab).1).2 _ _ ((bE x ab).2 w e h)
            rwa [af9]⟩) (by rw [ae1,bf,ae2,ah2,Q1])
          rw [af9,f8,i0,af7,af8,an9,aq1 1 i] at this;exact this
        rw [ad,i9] at g3;cases an:v.testBit a with
        | true=>
          rw [an,g6 C,a'] at g3;have:=aq4.inj g3;subst this;have zA:v∈fp a ws:=ae3.2 ⟨au,an⟩;exact step u (fp a ws) _ h7.yes fG (fun x ab=>⟨(ae3.1 ab).1,fun w e h=>gD.test U g2 (by rw [ad,i9,(ae3.1 ab).2,g6 C,a']) h⟩) zA g4 (fun vJ cQ cV=>J5 aD u _ _ vJ _ h7.yes fG cQ cV v zA w' e g4 i n aN)
        | false=>
          rw [an,d9 ba,aj] at g3;have:=aq4.inj g3;subst this;have zA:v∈fq a ws:=ae3.2 ⟨au,by rw [an];rfl⟩;exact step t (fq a ws) _ h7.no bz (fun x ab=>⟨(ae3.1 ab).1,fun w e h=>gD.test U g2 (by rw [ad,i9,show x.testBit a=false by have:=(ae3.1 ab).2;simpa using this,d9 ba,aj]) h⟩) zA g4 (fun vJ cQ cV=>J5 aD t _ _ vJ _ h7.no bz cQ cV v zA w' e g4 i n aN)
theorem acf {p:bR} {n:Int} (he:hc p n=0) (cE:e6 (bT p) (ca p n)≠[]):∀ v∈e6 (bT p) (ca p n),∀ w e,gD (lJ p n) v 0 w e→∀ i m,w[i]? = some m→zz (lJ p n) (e6 (bT p) (ca p n)) v w i m:=fun v au w e hw i m aN=>by
 have aD:=Fi (ca p n).length (c' p n (ca p n)) _ (e6 (bT p) (ca p n)) (g9 _) cE (fun u hu=>xP hu);have aC:=J3 he;rw [xi] at aC;have:=J5 aD _ _ [] [] 0 AtZ.here aC (fun x ab=>⟨ab,fun w e h=>h⟩) C v au w e hw i m aN;rwa [d8,af7,af8] at this
open Classical in
theorem acg {p:bR} {n:Int} (he:hc p n=0) (cE:e6 (bT p) (ca p n)≠[]):∀ q,q<(lJ p n).length→∃ v∈e6 (bT p) (ca p n),∃ w e,gD (lJ p n) v 0 w e∧(q∈w∨q=e):=by
 have kX:=E7 n he;have aD:=Fi (ca p n).length (c' p n (ca p n)) _ (e6 (bT p) (ca p n)) (g9 _) cE (fun u hu=>xP hu);have aC:=J3 he;rw [xi] at aC;generalize fF (ca p n).length (c' p n (ca p n)) (e6 (bT p) (ca p n))=t0 at aD aC;generalize e6 (bT p) (ca p n)=views at *;unfold lJ at *;generalize bI.laid [] (tN p n)=g at *;have lI:=BO kX;obtain ⟨BQ,jb⟩:=pC g 0;obtain ⟨a0,order,qt,nS,kK,cj,fX,Ig,J6,ze⟩:=Q0 kX;intro q bk;generalize dw:small g=G at *;have hlen:G.length=order.length:=by rw [nS,f0,ar8]
 have gH:∀ c∈order,∃ i:Nat,order[i]? = some c∧placeOf order c=(i:Int)∧i<order.length:=fun c aF=>by
  obtain ⟨i,aN⟩:=ag2 aF;exact ⟨i,aN,qm kK.nodup aN,(t7.1 aN).1⟩
 let P:Int→Prop:=fun y=>∃ (r:Nat) (u:bI) (ws known kq:List Nat),(r:Int)=(order.length:Int)-1-placeOf order y∧AtZ t0 views u ws known∧Rp G u r∧(∀ x∈ws,x∈views∧∀ w e,gD G x r w e→gD G x 0 (kq++w) e)
 have cc:∀ y∈order.filter (fun y=>decide (P y)),rD (b3 0 g).2 (order.filter (fun y=>decide (P y))) y:=fun y ax x ab aR=>by
  obtain ⟨pH,pI⟩:=ae3.1 ax;have pI:P y:=ai9 pI;have aA:=cj y pH x ab aR;obtain ⟨r,u,ws,known,kq,cd,b1,ek,j8⟩:=pI;obtain ⟨i,U,ad,aj⟩:=gH y pH;have J7:G[r]? = some (hB (b3 0 g).2 order y):=by
   rw [nS,af3,at3 ag,show order.length-1-r=i by omega,U];rfl
  have h4:hB (b3 0 g).2 order y={ x with no:=(order.length:Int)-1-placeOf order x.no,yes:=(order.length:Int)-1-placeOf order x.yes }:=by
   unfold hB;simp only [d5,ab,ae'];rw [g6 aR]
  rw [h4] at J7;cases u with
  | leaf ms=>
   rw [Rp] at ek;obtain ⟨z,uh,z2,-⟩:=ek;rw [J7] at uh;cases uh;exact absurd aR z2
  | test a t s=>
   rw [Rp] at ek;obtain ⟨z,k,l,uh,z2,z3,z4,z5,aeb⟩:=ek;have z0:=uh;rw [J7] at uh;cases uh;simp only at z2 z3 z4;refine ⟨ae3.2 ⟨aA.1,g7 ⟨k,t,fq a ws,_,kq++[r],z3.symm,b1.no,z5,fun kS bP=>?_⟩⟩,ae3.2 ⟨aA.2,g7 ⟨l,s,fp a ws,_,kq++[r],z4.symm,b1.yes,aeb,fun kS bP=>?_⟩⟩⟩
   ·obtain ⟨f1,f2⟩:=ae3.1 bP
    refine ⟨(j8 kS f1).1,fun w e h=>?_⟩;have f2:kS.testBit a=false:=by simpa using f2
    have:=(j8 kS f1).2 (r::w) e (gD.test (k:=k) z0 aR (by simp only;rw [z2,i9,f2,d9 ba,z3]) h);rwa [af9]
   ·obtain ⟨f1,f2⟩:=ae3.1 bP
    refine ⟨(j8 kS f1).1,fun w e h=>?_⟩;have:=(j8 kS f1).2 (r::w) e (gD.test (k:=l) z0 aR (by simp only;rw [z2,i9,f2,g6 C,z4]) h);rwa [af9]
 have ach:(a0:Int)∈order.filter (fun y=>decide (P y)):=ae3.2 ⟨fX,g7 ⟨0,t0,views,[],[],by rw [Ig];omega,AtZ.here,aC,fun x ab=>⟨ab,fun w e h=>h⟩⟩⟩;have fJ:=J0 lI cc (g.length+1) a0 ag ag ach [] (fun _ h=>by cases h);rw [← J6] at fJ;have xE:order[order.length-1-q]? = some order[order.length-1-q]:=f7 ag;obtain ⟨-,pI⟩:=ae3.1 (fJ _ (d6 xE));obtain ⟨r,u,ws,known,kq,cd,b1,ek,j8⟩:=(ai9 pI:P _);rw [qm kK.nodup xE] at cd;have:r=q:=by omega
 subst this;obtain ⟨v,au⟩:=ao8 _ (b1.parts aD).ne;obtain ⟨w,e,U,-⟩:=ek.Cm v;refine ⟨v,(j8 v au).1,kq++w,e,(j8 v au).2 w e U,?_⟩;cases U with
 | leaf _ _=>exact .inr C
 | test _ _ _ _=>exact .inl (an5 _ i8)
def nW (g:List bw) (w:List Nat):Nat:=w.foldl (fun k n=>k|||2^j6 g n) 0
theorem aci (g:List bw) (w:List Nat) (n:Nat):nW g (w++[n])=nW g w|||2^j6 g n:=by
 unfold nW;rw [List.foldl_append];rfl
theorem Q3 (f:Nat→Nat) (i:Nat):∀ (w:List Nat) (k:Nat),(w.foldl (fun k n=>k|||2^f n) k).testBit i=(k.testBit i||w.any fun n=>decide (f n=i))
  | [],k=>by simp
  | n::r,k=>by
    rw [List.foldl_cons,Q3 f i r,Nat.testBit_or,aj7,List.any_cons,Bool.or_assoc]
theorem J8 (g:List bw) (w:List Nat) (i:Nat):(nW g w).testBit i=w.any fun n=>decide (j6 g n=i):=by
 unfold nW;rw [Q3,Nat.zero_testBit,ah1]
theorem acj {g:List bw} {w:List Nat} {m:Nat} (h:∀ n∈w,j6 g n<m):nW g w<2^m:=by
 refine Nat.lt_pow_two_of_testBit _ fun i aN=>?_
 rw [J8,ak3];intro n az;have:=h n az;simp;omega
theorem J9 (k a:Nat):k &&& 2^a=if k.testBit a then 2^a else 0:=by
 refine al8 fun i=>?_
 rw [ak2,aj7];by_cases h:a=i
 ·subst h
  cases an:k.testBit a<;>simp
 ·split<;>simp [h,aj7]
theorem ack {g:List bw} {w:List Nat} {n:Nat} (h:j6 g n∉w.map (j6 g)):nW g w &&& 2^j6 g n=0:=by
 rw [J9,J8,d9];intro aF;obtain ⟨m,hm,e⟩:=ag5.1 aF;exact h (ag0.2 ⟨m,hm,ai9 e⟩)
theorem acm {g:List bw} {w:List Nat} {y v:Nat} (h:∀ m∈w,y.testBit (j6 g m)=v.testBit (j6 g m)):y &&& nW g w=v &&& nW g w:=by
 refine al8 fun i=>?_
 rw [ak2,ak2,J8];cases aR:w.any fun n=>decide (j6 g n=i) with
 | false=>simp
 | true=>
  obtain ⟨m,hm,e⟩:=ag5.1 aR;have e:=ai9 e;rw [← e,h m hm]
theorem acn {y v a:Nat} (h:y.testBit a = !v.testBit a):y &&& 2^a≠v &&& 2^a:=by
 rw [J9,J9,h];have:=Nat.two_pow_pos a;cases v.testBit a<;>simp<;>omega
theorem gD.lt {g:List bw} {v j:Nat} {w:List Nat} {e:Nat} (h:gD g v j w e):e<g.length∧∀ n∈w,n<g.length∧(g.getD n default).atom≥0:=by
 induction h with
 | leaf aH _=>exact ⟨(t7.1 aH).1,fun _ h=>by cases h⟩
 | test aH aR _ _ aX=>
  refine ⟨aX.1,fun n az=>?_⟩;rcases af1.1 az with rfl|az
  ·exact ⟨(t7.1 aH).1,by rw [d5,aH];exact aR⟩
  ·exact aX.2 n az
def Fj (g:List bw) (v K b i:Nat) (w:List Nat) (u:Nat) (rM:List Nat):Bool:=decide (u &&& K=v &&& K)&&(decide (i<rM.length)&&((rM.take (i+1)==w.take (i+1))&&decide (u &&& b≠v &&& b)))
theorem aco (_:Unit):aV d0 33 [.aB 4 [] .bc,.int .i64 3] (.bool true):=by
 have an:=bG;refine aV.bl ai Tryz.func33 C C fun s I=>?_
 refine gT ?_;exact bA I
theorem acp {p:bR} {n:Int} (aD:gu p=true) (av:px p n=true) (h:hc p n≠0):hc p n=3:=by
 unfold hc at h ⊢;rw [aD,av] at h ⊢;simp only [Bool.and_self,ag7] at h ⊢;split at h
 ·exact absurd C h
 ·rename_i ad;rw [d9 ad]
theorem acq (g:List bw) (av:g.length<bB) (hm:∀ x∈g,x.ms.length<bB):aV d0 34 [gW g] (.bool (hn g)):=by
 have an:=bG;refine aV.bl ai Tryz.func34 C C fun s I=>?_
 unfold gW;have dw:hn g=hn g:=rfl
 conv at dw=>rhs;unfold hn
 refine dF ?_;by_cases g1:g.length=0
 ·refine aa.dy 10 C (by simp [g1]) ?_
  rw [show decide (1≤g.length)=false by simp [g1],f6] at dw;rw [dw];refine eg ?_;exact bA I
 refine aa.da 10 C cP ?_;rw [show decide (1≤g.length)=true by simp;omega,f5] at dw;refine fK ?_;refine ae.cond C (fun g2=>?_) (fun g2=>?_)
 ·rw [show decide (g.length≤300)=false by simp at g2 ⊢;omega,f6] at dw
  rw [dw];refine gT ?_;exact bA I
 have g2:g.length≤300:=by simp at g2;omega
 rw [g7 g2,f5] at dw;rw [dw];refine jG ?_;refine ae.b9 [0,15,16] C I (σ:=Nat) (fun j=>[(17,.int .i64 (j:Int))]) (fun _=>[]) (fun j=>j≤g.length∧m1 g.length 0 g=m1 g.length j (g.drop j)) (fun j=>g.length-j) 0 ⟨g8 _,rfl⟩ (cz C) a1 ?_;rintro j ⟨aH,aq⟩ I
 try simp only at aH aq I ⊢
 refine b8 ?_;refine ae.cond C (fun aw=>?_) (fun aY=>?_);rotate_left
 ·have aY:j=g.length:=by simp at aY;omega
  rw [eG ag,m1] at aq;rw [aq];refine ef ?_;exact bA I
 have aw:j<g.length:=by simpa using aw
 obtain ⟨x,ab,bP⟩:=b5 (f:=e9) aw;have xR:=hm x (d6 ab);rw [drop_cons ab,m1] at aq;unfold e9 gL bg at bP
 repeat (first|(refine Au I ?_;clear I;intro I)|refine aa.dK ai I rfl rfl rfl rfl rfl rfl rfl (fun cA I=>?_))
 refine ae.cond C (fun aR=>?_) (fun aR=>?_);rotate_left
 ·have aR:x.atom ≠ -1:=by simpa using aR
  refine cv I ?_;intro I;by_cases U:x.atom<0
  ·refine aa.dy 67 C (by first|(simp;omega)|exact g7 U) ?_
   refine e8 ?_;rw [aq,show iA g.length j x=false from af5.2 (fun h=>by have:=(kk aR).1 h;omega),f6];skip;exact bA I
  refine aa.da 67 C (by first|(simp;omega)|exact H1 U) ?_;refine cv I ?_;intro I;by_cases ad:x.atom≥7
  ·refine aa.dy 72 C (by first|(simp;omega)|exact g7 ad) ?_
   refine e8 ?_;rw [aq,show iA g.length j x=false from af5.2 (fun h=>by have:=(kk aR).1 h;omega),f6];skip;exact bA I
  refine aa.da 72 C (by first|(simp;omega)|exact H1 ad) ?_;refine cv I ?_;intro I;by_cases aj:(if x.yes<x.no then x.yes else x.no)≤(j:Int)
  ·refine aa.dy 81 C (by first|(simp;omega)|exact g7 aj) ?_
   refine e8 ?_;rw [aq,show iA g.length j x=false from af5.2 (fun h=>by have:=(kk aR).1 h;omega),f6];skip;exact bA I
  refine aa.da 81 C (by first|(simp;omega)|exact H1 aj) ?_;refine cv I ?_;intro I;by_cases a':(if x.yes>x.no then x.yes else x.no)≥(g.length:Int)
  ·refine aa.dy 91 C (by first|(simp;omega)|exact g7 a') ?_
   refine e8 ?_;rw [aq,show iA g.length j x=false from af5.2 (fun h=>by have:=(kk aR).1 h;omega),f6];skip;exact bA I
  refine aa.da 91 C (by first|(simp;omega)|exact H1 a') ?_;refine cv I ?_;intro I;refine ae.cond C (fun bz=>?_) (fun bz=>?_)
  ·have bz:x.ms.length≠0:=by simp at bz;omega
   rw [aq,show iA g.length j x=false from af5.2 (fun h=>by have:=(kk aR).1 h;omega),f6];refine js ?_;exact bA I
  have bz:x.ms.length=0:=by simp at bz;rw [bz];rfl
  rw [(kk aR).2 ag,f5] at aq;refine gr ?_;exact bp.mk (j+1) I ⟨aw,aq⟩ ck a1 wG
 have aR:x.atom = -1:=by simpa using aR
 refine cv I ?_;intro I;by_cases U:x.no=0;rotate_left
 ·refine aa.dy 28 C tp ?_
  refine e8 ?_;rw [aq,show iA g.length j x=false from af5.2 (fun h=>by have:=(m5 aR).1 h;omega),f6];skip;exact bA I
 refine aa.da 28 C tp ?_;refine cv I ?_;intro I;by_cases ad:x.yes=0;rotate_left
 ·refine aa.dy 33 C qu ?_
  refine e8 ?_;rw [aq,show iA g.length j x=false from af5.2 (fun h=>by have:=(m5 aR).1 h;omega),f6];skip;exact bA I
 refine aa.da 33 C qu ?_;refine cv I ?_;intro I;refine ae.cond C (fun aj=>?_) (fun aj=>?_)
 ·rw [aq,show iA g.length j x=false from af5.2 (fun h=>by have:=(m5 aR).1 h;simp at aj;omega),f6]
  refine js ?_;exact bA I
 have aj:x.ms.length≤16:=by simp at aj;omega
 refine cv I ?_;intro I;refine ae.b9 [0,15,16,17,3,4,40,41] C I (σ:=Nat) (fun k=>[(42,.int .i64 (k:Int))]) (fun _=>[(.own cA,.box 69 (gL x))]) (fun k=>k≤x.ms.length∧lz x.ms=mC (if k=0 then none else x.ms[k-1]?) (x.ms.drop k)) (fun k=>x.ms.length-k) 0 ⟨g8 _,Mk _⟩ (cz C) (by simp only [gL];exact a1) ?_;rintro k ⟨aA,bf⟩ I
 try simp only [gL,bg] at aA bf I ⊢
 refine b8 ?_;refine ae.cond C (fun cl=>?_) (fun dd=>?_);rotate_left
 ·have dd:k=x.ms.length:=by simp at dd;omega
  rw [eG ag,mC] at bf;rw [(m5 aR).2 ⟨U,ad,aj,bf⟩,f5] at aq;refine ef ?_;exact bp.mk (j+1) I ⟨aw,aq⟩ ck a1 wG
 have cl:k<x.ms.length:=by simpa using cl
 obtain ⟨y,ax,c7⟩:=b5 (f:=bb) cl;rw [drop_cons ax] at bf;unfold bb at c7;refine dL ?_;by_cases a':y<0
 ·refine aa.dy 49 C (g7 a') ?_
  have bf:lz x.ms=false:=by
   rw [bf];cases (if k=0 then none else x.ms[k-1]?)<;>rw [mC,show decide (y≥0)=false by simp;omega,f6]
  rw [aq,show iA g.length j x=false from af5.2 (fun h=>by have:=((m5 aR).1 h).2.2.2;rw [bf] at this;cases this),f6];refine e8 ?_;exact bA I
 refine aa.da 49 C (H1 a') ?_;have nr:decide (y≥0)=true:=by simp;omega
 cases k with
 | zero=>
  rw [g6 C,mC,nr,f5] at bf;refine bD ?_;exact bp.mk 1 I ⟨cl,by rw [d9 ag];simpa [ax] using bf⟩ Dn a1 (by show x.ms.length-1<x.ms.length-0;omega)
 | succ k=>
 rw [d9 ag,aq0] at bf;obtain ⟨z,bE,tA⟩:=b5 (f:=bb) (show k<x.ms.length by omega);rw [bE,mC,nr,f5] at bf;unfold bb at tA;refine ep ?_;refine aa.dy 52 C ba ?_;refine cv I ?_;intro I;refine aa.idx ai k C C C C C C C C C C (by rw [ee ag ag];push_cast;omega) tA C ?_;refine fK ?_;refine ae.cond C (fun bz=>?_) (fun bz=>?_)
 ·rw [show decide (z<y)=false by simp at bz ⊢;omega,f6] at bf
  rw [aq,show iA g.length j x=false from af5.2 (fun h=>by have:=((m5 aR).1 h).2.2.2;rw [bf] at this;cases this),f6];refine js ?_;exact bA I
 rw [show decide (z<y)=true by simp at bz ⊢;omega,f5] at bf;refine gr ?_;exact bp.mk (k+2) I ⟨cl,by rw [d9 ag];simpa [ax] using bf⟩ Aw a1 (by show x.ms.length-(k+2)<x.ms.length-(k+1);omega)
theorem Q4 (p:bR) (aD:gC p) (n:Int):aV d0 32 [c9 p,.int .i64 n] (.bool (gu p&&px p n)):=by
 have an:=bG;refine aV.bl ai Tryz.func32 C C fun s I=>?_
 have U:=aaa p aD;cases eD:gu p with
 | false=>
  rw [eD] at U;unfold c9 c1 at *;refine cB ?_;exact bA I
 | true=>
 rw [eD] at U;rw [f5];unfold px;unfold c9 c1 bg at *;by_cases bu:n≥0
 ·refine cB ?_
  refine aa.dy 11 C (g7 bu) ?_;rw [g7 bu,f5];refine eA ?_;exact Fin.cG I C (aU.of_eq (ae7 af.bool ba))
 ·refine cB ?_
  refine aa.da 11 C (H1 bu) ?_;rw [H1 bu,f6];refine eg ?_;exact bA I
def rN (l:List Nat):af := .aB 1 (l.map fun n:Nat=>af.int .i64 (n:Int)) .bc
theorem J' (l:List Nat):rN l=bg (l.map fun n:Nat=>(n:Int)):=by unfold rN bg;rw [Qd]
theorem Q5 (g:List bw) (av:hn g=true) (v:Nat) (au:v<2^63) (w:List Nat) (e:Nat) (hw:gD g v 0 w e):aV d0 39 [gW g,.int .i64 (v:Int)] (.cu [.int .i64 (e:Int),rN w]):=by
 have an:=bG;refine aV.bl ai Tryz.func39 C C fun s I=>?_
 obtain ⟨lQ,eY⟩:=wS av;unfold gW rN;refine gy ?_;refine ae.ih I 3 1 0 fun I=>?_
 refine ae.b9 [0,1] C I (σ:=Nat×List Nat×List Nat×bQ) (fun q=>[(6,.int .i64 (q.1:Int)),(7,.aB 1 (q.2.1.map fun n:Nat=>af.int .i64 (n:Int)) q.2.2.2)]) (fun q=>[(q.2.2.2,.row 3 1 q.2.1.length)]) (fun q=>q.1<g.length∧gD g v q.1 q.2.2.1 e∧w=q.2.1++q.2.2.1∧q.2.1.length≤q.1) (fun q=>g.length-q.1) (0,[],w,.nil) ⟨lQ,hw,rfl,g9 _⟩ ⟨⟨_,rfl,aO⟩,⟨_,rfl,aU.nil hk⟩,trivial⟩ (aI.ei _) ?_;rintro ⟨j,kq,r,own⟩ ⟨aH,fw,eB,az⟩ I;simp only at aH fw eB az I ⊢;obtain ⟨x,ab,bP⟩:=b5 (f:=e9) aH;have aT:=tB av ab;unfold e9 gL bg at bP;cases fw with
 | leaf U ad=>
  rw [ab] at U;cases U;refine dL ?_;refine ae.cond C (fun aR=>absurd w4 ad) (fun aR=>?_);rw [d7] at eB;subst eB;refine ef ?_;exact Fin.cG I C (aU.cu (.cons aO (.one aU.bc)))
 | test U ad aj a'=>
  rename_i k kS w';rw [ab] at U;cases U;have eo:=(kk ag).1 aT;obtain ⟨a,ve⟩:∃ a:Nat,x.atom=a:=⟨x.atom.toNat,by omega⟩;rw [ve,i9] at aj;rw [ve] at bP;refine bD ?_;refine aa.gn ai I C C C C C C C er C C C C C C C C aZ hy ki ag (fun b0 I=>?_);refine dL ?_;refine aa.shr _ C C C C C C ag (r6 ag) ?_;refine aa.bits _ C C C C C C (q3 (n:=1) (aj6 (ao1 v a) au) ag) ?_;refine fK ?_;have an:=yY v a;refine ae.cond C (fun aF=>?_) (fun aF=>?_)
  ·rw [aF] at an
   rw [← an,g6 C] at aj;rw [aj] at bP;refine bD ?_;exact bp.mk (k,kq++[j],w',.own b0) I ⟨by show k<g.length;omega,a',by rw [eB,af9];rfl,by simp;omega⟩ QH QK (by show g.length-k<g.length-j;omega)
  ·rw [aF] at an
   rw [← an,d9 ba] at aj;rw [aj] at bP;refine bD ?_;exact bp.mk (k,kq++[j],w',.own b0) I ⟨by show k<g.length;omega,a',by rw [eB,af9];rfl,by simp;omega⟩ QH QK (by show g.length-k<g.length-j;omega)
theorem acr (x:ao):aU (.agg [.int .i64 5,.int .i64 0,.aB 0 [] .nil,.int .i64 0,.int .i64 0,.aB 6 [.agg x.cells] .clip]) (.agg x.not.cells):=by
 refine aU.trans (aU.agg (.cons aO (.cons aO (.cons (aU.empty (sz':=1)) (.cons aO (.cons aO (.one aU.bc))))))) (aU.of_eq ?_);exact ae7 (fun z=>af.agg [.int .i64 5,.int .i64 0,.aB 1 [] .bc,.int .i64 0,.int .i64 0,.aB 6 [z] .bc]) (ao.cp x).symm
theorem acs (p:bR) (aD:gC p) (eD:gu p=true) (l:List ao) (gj:l.length≤7) (de:jA (bT p) l):aV d0 38 [c9 p,d' l] (rN (e6 (bT p) l)):=by
 have an:=bG;have l':=xy eD;have ua:2^l.length≤2^7:=ah7 ag gj;have yM:e6 (bT p) l=oO (bT p) l (2^l.length):=rfl;rw [yM];have ad:=EL p aD QJ;obtain ⟨xs,dg⟩:∃ xs:Nat→List af,∀ j,xs j=jf (oO (bT p) l j):=⟨_,fun _=>rfl⟩;have bu:xs 0=[]:=by rw [dg];rfl
 have EJ:∀ j,(xs j).length≤j:=fun j=>by rw [dg];unfold jf;rw [f0];exact PS _ _ _
 have vz:∀ j,xs (j+1)=xs j++(if nd (bT p) l j then [.int .i64 (j:Int)] else []):=fun j=>by
  rw [dg,dg,PR];unfold jf;rw [ae1];split<;>rfl
 refine aV.bl ai Tryz.func38 C C fun s I=>?_
 unfold c9 c1 fh fl cZ bg d' rN at *;refine dF ?_;refine aa.shl ((2^l.length:Nat):Int) C C C C C C ag (by rw [f0];exact ER gj) ?_;refine dL ?_;refine ae.ih I 3 1 0 fun I=>?_
 refine ae.b9 [1,2,12] C I (σ:=Nat×bQ) (fun q=>[(13,.int .i64 (q.1:Int)),(5,.aB 1 (xs q.1) q.2)]) (fun q=>[(q.2,.row 3 1 (xs q.1).length)]) (fun q=>q.1≤2^l.length) (fun q=>2^l.length-q.1) (0,.nil) (g8 _) ⟨⟨_,rfl,aO⟩,⟨_,rfl,by rw [bu];exact aU.nil hk⟩,trivial⟩ yJ ?_;rintro ⟨j,own⟩ aH I;simp only at aH I ⊢;refine b8 ?_;refine ae.cond C (fun aw=>?_) (fun aY=>?_);rotate_left
 ·have aY:j=2^l.length:=by
   have:¬ ((j:Int)<((2^l.length:Nat):Int)):=by simpa using aY
   omega
  subst aY;refine ef ?_;exact Fin.cG I C (aU.trans aU.bc (aU.of_eq (by rw [dg];rfl)))
 have aw:j<2^l.length:=by
  have:((j:Int)<((2^l.length:Nat):Int)):=by simpa using aw
  omega
 have ar:=vz j;have lp:=EJ j;have Q6:=QS de gj j;have U:=abY (bT p) l' (rp l j) Q6;rw [QD l' Q6.2,show nN (bT p) (et (rp l j))=nd (bT p) l j from rfl] at U;have mB:=Ff l j;obtain ⟨ys,pK⟩:∃ ys:Nat→List af,∀ i,ys i=((rp l j).take i).map (fun x=>(iq x).bW):=⟨_,fun _=>rfl⟩;have JR:ys 0=[]:=by rw [pK];rfl
 have P9:∀ i,(ys i).length≤i:=fun i=>by rw [pK,f0,ae8];omega
 have hP:ys l.length=(rp l j).map (fun x=>(iq x).bW):=by rw [pK,← mB,ae6]
 unfold oM fh fl cZ bg at U;rw [← hP] at U;refine jG ?_;refine ae.ih I 58 6 0 fun I=>?_
 refine ae.b9 [1,2,5,6,12,13,16,17] C I (σ:=Nat×bQ) (fun q=>[(18,.int .i64 (q.1:Int)),(7,.aB 6 (ys q.1) q.2)]) (fun q=>[(q.2,.row 58 6 (ys q.1).length),(own,.row 3 1 (xs j).length)]) (fun q=>q.1≤l.length) (fun q=>l.length-q.1) (0,.nil) (g8 _) ⟨⟨_,rfl,aO⟩,⟨_,rfl,by rw [JR];exact aU.nil hk⟩,trivial⟩ (by rw [JR];exact aI.ei _) ?_;rintro ⟨i,r9⟩ aN I;simp only at aN I ⊢;refine b8 ?_;refine ae.cond C (fun cl=>?_) (fun dd=>?_);rotate_left
 ·have dd:i=l.length:=by simp at dd;omega
  subst dd;cases aF:nd (bT p) l j with
  | false=>
   rw [aF,d9 ba,d7] at ar;rw [aF] at U;refine cB ?_;exact bp.mk (j+1,own) I aw ly (by show aI _ [(_,.row _ _ (xs (j+1)).length)] _;rw [ar];exact a1) (by show 2^l.length-(j+1)<2^l.length-j;omega)
  | true=>
   rw [aF,g6 C] at ar;rw [aF] at U;have df:(xs (j+1)).length=(xs j).length+1:=by rw [ar];simp
   refine db ?_;refine aa.gn ai I C C C C C C C er C C C C C C C C aZ hy ki ag (fun eQ I=>?_);refine gf ?_;exact bp.mk (j+1,.own eQ) I aw ly (by show aI _ [(_,.row _ _ (xs (j+1)).length)] _;rw [df];exact a1) (by show 2^l.length-(j+1)<2^l.length-j;omega)
 have cl:i<l.length:=by simpa using cl
 obtain ⟨x,ab,bP⟩:=b5 (f:=ao.bW) cl;have ax:=pK (i+1);rw [hZ (JS (v:=j) ab),ae1,← pK] at ax;have ax:ys (i+1)=ys i++[(iq (x,!j.testBit i)).bW]:=ax;have Q7:(ys (i+1)).length=(ys i).length+1:=by rw [ax];simp
 have adL:=P9 i;have u3:=yY j i;rw [ao.cp] at bP;have cj:x.cells=[.int .i64 x.op,.int .i64 x.arg,.aB 1 (x.path.map fun i => .int .i64 i) .bc,.int .i64 x.cls,.int .i64 x.n,.aB 6 (x.kids.map ao.bW) .bc]:=rfl;rw [cj] at bP;have acu:((((j >>> i) &&& 1:Nat):Int)==0) = !j.testBit i:=by
  rw [← u3];rcases Nat.mod_two_eq_zero_or_one (j >>> i) with h|h<;>rw [Nat.and_one_is_mod,h]<;>rfl
 repeat (first|(refine uN I ?_;clear I;intro I)|refine aa.dK ai I rfl rfl rfl rfl rfl rfl rfl (fun cA I=>?_))
 refine aa.shr _ C C C C C C ag (r6 ag) ?_;refine aa.bits _ C C C C C C (q3 (n:=1) (aj6 (ao1 j i) ag) ag) ?_;refine fK ?_;rw [acu];cases kf:j.testBit i with
 | true=>
  rw [kf,show iq (x,!true)=x from rfl,ao.cp,cj] at ax;refine cv I ?_;intro I;refine aa.gn ai I C C C C C C C er C C C C C C C C aZ hy BB ag (fun eQ I=>?_);refine gf ?_;exact bp.mk (i+1,.own eQ) I cl QG (by show aI _ [(_,.row _ _ (ys (i+1)).length),_] _;rw [Q7];exact a1) sI
 | false=>
  rw [kf,show iq (x,!false)=x.not from rfl,ao.cp] at ax;have p3:=acr x;rw [cj] at p3;refine cv I ?_;intro I;refine aa.nD 33 (.aB 6 [.agg x.not.cells] .bc) C (aU.aB (.one p3)) ?_;refine aa.gn ai I C C C C C C C er C C C C C C C C aZ hy BB ag (fun eQ I=>?_);refine gf ?_;exact bp.mk (i+1,.own eQ) I cl QG (by show aI _ [(_,.row _ _ (ys (i+1)).length),_] _;rw [Q7];exact a1) sI
def sP (b:Bool):af := .bool b
theorem acv (l:List Bool) (b:Bool) (aE:l.length<bB):aV d0 91 [.aB 1 (l.map sP) .bc,.bool b] (.int .i64 (match l.findIdx? (· == b) with|some i=>(i:Int)|none => -1)):=by
 have an:=bG;refine aV.bl ai Tryz.func91 C C fun s I=>?_
 refine gy ?_;refine ae.b9 [0,1,6,7] C I (σ:=Nat) (fun j=>[(8,.int .i64 (j:Int))]) (fun _=>[]) (fun j=>j≤l.length∧∀ i,i<j→l[i]? ≠ some b) (fun j=>l.length-j) 0 ⟨g8 _,fun i aN=>absurd aN (Nat.not_lt_zero _)⟩ (cz C) a1 ?_;rintro j ⟨aH,aq⟩ I
 try simp only at aH aq I ⊢
 refine b8 ?_;refine ae.cond C (fun aw=>?_) (fun aY=>?_);rotate_left
 ·have aY:j=l.length:=by simp at aY;omega
  have ab:l.findIdx? (· == b)=none:=by
   rw [ah'];intro z bE;obtain ⟨i,aN⟩:=ag2 bE;have U:=oe aN;have:=aq i ag;rw [aN] at this;simp only [beq_eq_false_iff_ne,ne_eq];exact fun e=>this (by rw [e])
  rw [ab];refine ef ?_;exact bA I
 have aw:j<l.length:=by simpa using aw
 obtain ⟨y,ax,c7⟩:=b5 (f:=sP) aw;unfold sP at c7;refine bD ?_;refine ae.cond C (fun aF=>?_) (fun aF=>?_)
 ·have aF:b=y:=by simpa using aF
  subst aF;have ab:l.findIdx? (· == b)=some j:=by
   rw [List.findIdx?_eq_some_iff_getElem];refine ⟨aw,by simpa using (t7.1 ax).2,fun i aN=>?_⟩;have:=aq i aN;rw [f7 ag] at this;simpa using this
  rw [ab];refine js ?_;exact bA I
 ·have aF:b≠y:=by simpa using aF
  refine gr ?_
  exact bp.mk (j+1) I ⟨aw,fun i aN=>by
   rcases Nat.lt_succ_iff_lt_or_eq.1 aN with aN|rfl
   ·exact aq i aN
   ·rw [ax];intro e;cases e;exact aF C⟩ ck a1 qb
theorem acw (l:List Bool) (aE:l.length<bB) (fJ:∀ b∈l,b=true):aV d0 42 [.aB 1 (l.map sP) .bc,.bool false] (.bool false):=by
 have an:=bG;refine aV.bl ai Tryz.func42 C C fun s I=>?_
 have U:=acv l false aE;have ab:l.findIdx? (· == false)=none:=by
  rw [ah'];intro z bE;rw [fJ z bE];rfl
 rw [ab] at U;refine cB ?_;exact bA I
def Fk (g:List bw) (v i:Nat) (w:List Nat) (b kb:Nat):af := .func 41 [] [.br [gW g] 0,.ptr kb 0,.br [.int .i64 (v:Int)] 0,.br [.int .i64 (i:Int)] 0,.br [rN w] 0,.br [.int .i64 (b:Int)] 0]
def Cn (kb K:Nat):a8:=[(.own kb,.box 3 [.int .i64 (K:Int)])]
theorem acx (g:List bw) (av:hn g=true) (v i:Nat) (w:List Nat) (b kb K:Nat) (au:v<2^63) (kf:b<2^63) (bf:K<2^63) (aN:i<w.length) (pj:w.length<bB) (u:Nat) (hu:u<2^63) (rM:List Nat) (Q8:Nat) (hw:gD g u 0 rM Q8) (kc:rM.length<bB) :
  di d0 (Fk g v i w b kb) [.int .i64 (u:Int)] (Cn kb K) (fun o L=>o = .ret (.bool (Fj g v K b i w u rM))∧L=Cn kb K):=by
 have an:=bG;have U:=Q5 g av u hu rM Q8 hw;have ad:=uS ((rM.take (i+1)).map fun n:Nat=>(n:Int)) ((w.take (i+1)).map fun n:Nat=>(n:Int)) (by rw [f0,ae8];omega) (by rw [f0,ae8];omega);rw [Qe,← J',← J'] at ad;unfold Fk Cn rN at *;rw [ap7,ap7] at ad;refine di.fk (first:=[]) (args:=[.int .i64 (u:Int)]) (cap:=[.br [gW g] 0,.ptr kb 0,.br [.int .i64 (v:Int)] 0,.br [.int .i64 (i:Int)] 0,.br [.aB 1 (w.map fun n:Nat=>af.int .i64 (n:Int)) .bc] 0,.br [.int .i64 (b:Int)] 0]) ?_;refine bF.bl ai Tryz.func41 C C fun s I=>?_
 unfold Fj;refine gK I ?_;intro I;refine aM.bits _ C C C C C C (q3 hu bf) ?_;refine cv I ?_;intro I;refine aM.bits _ C C C C C C (q3 au bf) ?_;refine jH ?_;have cd:(((u &&& K:Nat):Int)==((v &&& K:Nat):Int))=decide (u &&& K=v &&& K):=by
  rw [af4];simp;omega
 refine aM.split 24 C (fun g1=>?_) (fun g1=>?_);rotate_left
 ·rw [show decide (u &&& K=v &&& K)=false by rw [← cd];simpa using g1,f6]
  refine gU ?_;exact Fin.bt I C aO a1 ⟨rfl,rfl⟩
 rw [show decide (u &&& K=v &&& K)=true by rw [← cd];simpa using g1,f5];refine jH ?_;by_cases g2:i<rM.length;rotate_left
 ·refine aM.split 30 C (fun h=>absurd h cP) (fun _=>?_)
  rw [H1 g2,f6];refine gU ?_;exact Fin.bt I C aO a1 ⟨rfl,rfl⟩
 refine aM.split 30 C (fun _=>?_) (fun h=>absurd g2 (by simp at h;omega));rw [g7 g2,f5];refine jH ?_;refine aM.slice 0 (i+1) C C C C C C C C (.inr C) (.inl ⟨rfl,rfl⟩) (.inr ⟨_,_,rfl,(by rw [iN ag];rfl)⟩) (.inl ⟨rfl,rfl⟩) (g8 _) nM ?_;refine jH ?_;refine aM.slice 0 (i+1) C C C C C C C C (.inr C) (.inl ⟨rfl,rfl⟩) (.inr ⟨_,_,rfl,(by rw [iN ag];rfl)⟩) (.inl ⟨rfl,rfl⟩) (g8 _) nM ?_;simp only [List.drop_zero];refine db ?_;refine aM.split 41 C (fun g3=>?_) (fun g3=>?_);rotate_left
 ·rw [show (ar4 (i+1) rM==ar4 (i+1) w)=false from g3,f6]
  refine gU ?_;exact Fin.bt I C aO a1 ⟨rfl,rfl⟩
 rw [show (ar4 (i+1) rM==ar4 (i+1) w)=true from g3,f5];refine jH ?_;refine aM.bits _ C C C C C C (q3 hu kf) ?_;refine jH ?_;refine aM.bits _ C C C C C C (q3 au kf) ?_;refine gU ?_;exact Fin.bt I C (aU.of_eq (ae7 af.bool (by rw [af4];simp;omega))) a1 ⟨rfl,rfl⟩
theorem gD.len {g:List bw} (av:hn g=true) {v j:Nat} {w:List Nat} {e:Nat} (h:gD g v j w e):j+w.length<g.length:=by
 induction h with
 | leaf aH _=>exact (t7.1 aH).1
 | test aH aR aA _ aX=>
  have aT:=tB av aH;have eo:=(kk ag).1 aT;rw [i0];split at aA<;>omega
theorem acy {w:bx} {x:ao} (h:gM w x=true∧x.c0=true):h' w x=true:=by
 have aA:=B5 h.1 h.2;obtain ⟨o,a,p,c,n,ks⟩:=x;have aA:ks=[]:=aA;subst aA;have az:=h.1;rw [gM,jJ,aq9] at az;unfold h';rw [e1,az,gV];rfl
theorem Fl {S:List Bool} {e q:Nat} (h:S[q]? = some true):(S.set e true)[q]? = some true:=by
 rw [List.getElem?_set];split
 ·rename_i U
  subst U;rw [g6 (t7.1 h).1]
 ·exact h
theorem Q9 {S:List Bool} {e:Nat} (h:e<S.length):(S.set e true)[e]? = some true:=by rw [List.getElem?_set_self h]
theorem Q' (S:List Bool) (e:Nat):eS (e*1) [.bool true] (S.map sP)=(S.set e true).map sP:=by
 rw [pb,ai8,List.map_set];rfl
theorem adM (p:bR) (aD:gC p) (n:Int):aV d0 7 [c9 p,.int .i64 n] (.bool true):=by
  have an:=bG;have dn:=abx ();have U:=Q4 p aD n;refine aV.bl ai Tryz.func7 C C fun s I=>?_
  cases pF:gu p&&px p n with
  | false=>
    rw [pF] at U;unfold c9 c1 at *;refine cB ?_;exact bA I
  | true=>
  rw [pF] at U;rw [f9] at pF;have aj:=Qa p aD n;unfold E6 at aj;rw [show small (bI.laid [] (tN p n))=lJ p n from rfl] at aj;by_cases he:hc p n=0;rotate_left
  · rw [d9 he,acp pF.1 pF.2 he] at aj
    have aC:=aco ();unfold c9 c1 at *;refine dY ?_;refine aa.lx C C C C C aC (.cons aU.empty (.one aO)) ?_;refine db ?_;exact bA I
  rw [g6 he,he] at aj;obtain ⟨eD,gj,de,eM,fJ⟩:=vA he;have l':=xy eD;have iM:=acb he;have kP:=wS iM;have s7:=P3 iM;have dN:=aaE p aD n;have a3:=PW p aD n;have a4:=fun v=>JA p aD n v
  unfold Jz at dN;unfold EU at a3;rw [he,g6 C] at dN a3;have vm:=acq (lJ p n) ag (fun x ab=>by have:=s7 x ab;omega);rw [iM] at vm;have rn:=acs p aD eD (ca p n) gj de;have cE:=ab0 l' de gj;have ua:2^(ca p n).length≤2^7:=ah7 ag gj;have fs:=B' (bT p) (ca p n);have ET:∀ v∈e6 (bT p) (ca p n),v<128∧xQ p n (v:Int)=0:=fun v au=>by
    have ad:=xP au;refine ⟨by omega,?_⟩;unfold xQ EV;rw [he,g6 C,g7 (an8 v),g7 (Int.ofNat_lt.2 ad),i9,(ae3.1 au).2];rfl
  have Fm:∀ v∈e6 (bT p) (ca p n),∃ w e,gD (lJ p n) v 0 w e∧((lJ p n).getD e default).ms=c' p n (ca p n) v:=fun v au=>by
    obtain ⟨w,e,g1,g2⟩:=(J3 he).Cm v;rw [xi,Ez (ca p n).length (c' p n (ca p n)) _ _ (g9 _) (fun u hu=>xP hu) v au] at g2;exact ⟨w,e,g1,g2⟩
  have acz:=acf he cE;have acA:=acg he cE;have Ra:∀ x∈lJ p n,x.atom<((ca p n).length:Int):=fun x ab=>by
    have:=ab6 he;unfold vd at this;simp only [f9,ag6,i7] at this;exact this.1 x ab
  have Rb:∀ v,(c' p n (ca p n) v).length<bB:=fun v=>by
    have:=xC n (ca p n) v p.methods 0;have:=aD.Bs;show (qd n (ca p n) v 0 p.methods).length<bB;omega
  have ad:=EL p aD QJ;have k1:=fun f h=>Pb (bT p) l'.jZ f h
  have iD:=uS ((e6 (bT p) (ca p n)).map fun n:Nat=>(n:Int)) ((e6 (bT p) (ca p n)).map fun n:Nat=>(n:Int)) nM nM;rw [show (((e6 (bT p) (ca p n)).map fun n:Nat=>(n:Int))==((e6 (bT p) (ca p n)).map fun n:Nat=>(n:Int)))=true from beq_iff_eq.2 C,← J'] at iD;obtain ⟨W,E,Fo⟩:∃ (W:Nat→List Nat) (E:Nat→Nat),∀ v∈e6 (bT p) (ca p n),gD (lJ p n) v 0 (W v) (E v)∧((lJ p n).getD (E v) default).ms=c' p n (ca p n) v:=by
    classical refine ⟨fun v=>if h:v∈e6 (bT p) (ca p n) then (Fm v h).choose else [],fun v=>if h:v∈e6 (bT p) (ca p n) then (Fm v h).choose_spec.choose else 0,fun v au=>?_⟩;simp only [dif_pos au];exact (Fm v au).choose_spec.choose_spec
  have Rc:jf (e6 (bT p) (ca p n))=(e6 (bT p) (ca p n)).map fun n:Nat=>af.int .i64 (n:Int):=rfl
  rw [Rc] at a3;clear Rc Fm U;have U:=Q4 p aD n;rw [pF.1,pF.2] at U;generalize eJ:c' p n (ca p n)=M at *;generalize lJ p n=G at *;generalize e6 (bT p) (ca p n)=V at *;generalize h7:ca p n=A at *;unfold EW at a4;rw [h7] at a4;rw [eJ] at a4;unfold c9 c1 gW rN d' fh fl cZ bg at *;refine dY ?_;refine aa.da 66 C cP ?_;refine cB ?_;refine ae.b9 [1,2,5,7,8,71,72] C I (σ:=Nat) (fun j=>[(73,.int .i64 (j:Int))]) (fun _=>[]) (fun j=>j≤A.length) (fun j=>A.length-j) 0 (g8 _) (cz C) a1 ?_;rintro j aH I
  try simp only at aH I ⊢
  refine b8 ?_;refine ae.cond C (fun aw=>?_) (fun aY=>?_)
  · have aw:j<A.length:=by simpa using aw
    obtain ⟨x,ab,bP⟩:=b5 (f:=ao.bW) aw;have zB:=de x (d6 ab);have IC:=xz zB.1 zB.2;have Fp:=k1 x (by rw [x.size_eq,B5 zB.1 zB.2,ao.iC];omega);rw [acy zB] at Fp;have bY:x.op=2∨x.op=3∨x.op=4:=by
      have:=zB.2;unfold ao.c0 at this;simp only [f9,i7] at this;omega
    rw [ao.cp] at bP Fp;unfold ao.cells at bP Fp;rcases bY with bY|bY|bY
    all_goals
      rw [bY] at bP Fp;refine dY ?_;exact bp.mk (j+1) I aw ck a1 (by show A.length-(j+1)<A.length-j;omega)
  clear aY aH;refine db ?_;refine aa.tz ai I (G.map e9).length C C C C C C C C C C C C (by rw [f0];show _*1≤_;omega) nM (fun ds I=>?_);rw [f0] at I ⊢;refine bD ?_;refine ae.b9 [1,2,5,7,8,12,107,108] rfl I (σ:=Nat×List Bool) (fun q=>[(109,.int .i64 (q.1:Int))]) (fun q=>[(.own ds,.box 4 (q.2.map sP))]) (fun q=>q.1≤V.length∧q.2.length=G.length∧∀ v∈V.take q.1,q.2[E v]? = some true∧∀ m∈W v,q.2[m]? = some true) (fun q=>V.length-q.1) (0,List.replicate G.length false) ⟨g8 _,List.length_replicate,fun v au=>by cases au⟩ (cz rfl) (by rw [List.map_replicate];exact a1) ?_;rintro ⟨j,S⟩ ⟨aH,Ka,Fq⟩ I;simp only at aH Ka Fq I ⊢;refine b8 ?_;refine ae.cond C (fun aw=>?_) (fun aY=>?_);rotate_left
  · have aY:j=V.length:=by simp at aY;omega
    subst aY;rw [ae6] at Fq
    have Cj:=acw S ag (fun b an=>by
      obtain ⟨q,bk⟩:=ag2 an
      have QY:=oe bk
      obtain ⟨v,au,w,e,hw,Kb⟩:=acA q ag
      obtain ⟨rfl,rfl⟩:=(Fo v au).1.J4 hw
      obtain ⟨cQ,cV⟩:=Fq v au
      rcases Kb with Kb|rfl
      · have:=cV q Kb
        rw [bk] at this;cases this;rfl
      · rw [bk] at cQ;cases cQ;rfl)
    refine tn ?_;refine ae.tt I 12 ds (cs:=S.map sP) C aZ (by rw [f0];exact Ka) (g9 _) ag (by rw [ag8 nM];simp [sP,e7]) (fun I=>?_);rw [ag8 nM];refine db ?_;exact bA I
  have aw:j<V.length:=by simpa using aw
  obtain ⟨v,au,oV⟩:=b5 (f:=fun n:Nat=>af.int .i64 (n:Int)) aw;have Kc:=d6 au;obtain ⟨hw,xN⟩:=Fo v Kc;obtain ⟨E0,J6⟩:=ET v Kc;have HY:=acz v Kc _ _ hw;have pj:=gD.len iM hw;obtain ⟨acB,Re⟩:=hw.lt;have la:=Q5 G iM v ag _ _ hw;have a4:=a4 (v:Int);rw [J6,g6 C,i9] at a4;obtain ⟨aes,DU,Rf⟩:=b5 (f:=e9) acB;rw [d5,DU,ae'] at xN;have sZ:=Q' S (E v);have hl:∀ u∈V.take (j+1),u∈V.take j∨u=v:=fun u hu=>by
    rw [hZ au] at hu;rcases ae4.1 hu with h|h
    · exact .inl h
    · exact .inr (t6.1 h)
  have CV:V.length<bB:=by omega
  unfold rN gW at la;unfold e9 gL bg at Rf;rw [xN] at Rf;generalize HR:W v=w at *;generalize acC:E v=e at *
  repeat (first|(refine Up I ?_;clear I;intro I)|refine aa.dK ai I rfl rfl rfl rfl rfl rfl rfl (fun cA I=>?_)|(refine o4 ?_))
  obtain ⟨dM,rfl⟩:∃ x,x=cA:=⟨_,rfl⟩;refine aa.fc ai e C C C C C C C C C C ag ?_;refine aa.jv ai I _ C C C C C C C C C aZ (by rw [f0];show e*1+1≤_;omega) sZ (fun I=>?_);refine db ?_
  refine aa.eb C C C C C (by
    have Rg:=uS (M v) (M v) (Rb v) (Rb v)
    rw [show (M v==M v)=true from beq_iff_eq.2 C] at Rg
    exact Rg) ?_
  repeat (first|(refine Uq I ?_;clear I;intro I)|refine aa.dK ai I rfl rfl rfl rfl rfl rfl rfl (fun cA I=>?_))
  obtain ⟨kb,rfl⟩:∃ x,x=cA:=⟨_,rfl⟩;refine ae.mu I 16 dM C aZ (fun I=>?_);refine ae.b9 [1,2,5,7,8,12,107,108,109,14,15,16,19,141,142] C I (σ:=Nat×List Bool) (fun q=>[(143,.int .i64 (q.1:Int))]) (fun q=>[(.own kb,.box 3 [.int .i64 (nW G (w.take q.1):Int)]),(.own ds,.box 4 (q.2.map sP))]) (fun q=>q.1≤w.length∧q.2.length=G.length∧(∀ Co:Nat,S[Co]? = some true→q.2[Co]? = some true)∧q.2[e]? = some true∧∀ m∈w.take q.1,q.2[m]? = some true) (fun q=>w.length-q.1) (0,S.set e true) ⟨g8 _,by rw [ag3];exact Ka,fun Co h=>Fl h,Q9 ag,fun m hm=>by cases hm⟩ (cz rfl) a1 ?_;rintro ⟨i,Kd⟩ ⟨aN,Ke,Fs,Kf,Ft⟩ I;simp only at aN Ke Fs Kf Ft I ⊢;refine b8 ?_;refine ae.cond C (fun cl=>?_) (fun dd=>?_);rotate_left
  · have dd:i=w.length:=by simp at dd;omega
    subst dd;rw [ae6] at Ft;refine bD ?_
    exact bp.mk (j+1,Kd) I ⟨aw,Ke,fun u hu=>by
      rcases hl u hu with hu|rfl
      · obtain ⟨cQ,cV⟩:=Fq u hu
        exact ⟨Fs _ cQ,fun m hm=>Fs _ (cV m hm)⟩
      · rw [HR,acC];exact ⟨Kf,Ft⟩⟩ ck a1 (by show V.length-(j+1)<V.length-j;omega)
  have cl:i<w.length:=by simpa using cl
  obtain ⟨q,bk,uo⟩:=b5 (f:=fun n:Nat=>af.int .i64 (n:Int)) cl;have acD:=d6 bk;obtain ⟨acE,acF⟩:=Re q acD;obtain ⟨Fu,Rh,Ri⟩:=b5 (f:=e9) acE;have Rk:G.getD q default=Fu:=by rw [d5,Rh];rfl
  rw [Rk] at acF;have adN:=Ra Fu (d6 Rh);obtain ⟨a,ve⟩:∃ a:Nat,Fu.atom=a:=⟨Fu.atom.toNat,by omega⟩;have Rl:j6 G q=a:=by unfold j6;rw [Rk,ve,i9]
  have ah:=HY i q bk;unfold zz at ah;obtain ⟨sg,y,b0,eQ,zd,w',e',aeK,aeG,aeI⟩:=ah;have qV:=ack sg;rw [Rl] at qV zd
  have Kg:nW G (w.take i)<2^63:=Nat.lt_of_lt_of_le (acj (m:=7) (fun m hm=>by
    obtain ⟨ha,dk⟩:=Re m (List.mem_of_mem_take hm)
    have:=Ra (G.getD m default) (by rw [d5,f7 ha];exact am9 ha)
    unfold j6
    omega)) ec
  have Kh:2^a<2^63:=Nat.pow_lt_pow_right ag ag;have acG:=Q' Kd q;have acH:nW G (w.take (i+1))=nW G (w.take i)|||2^a:=by rw [hZ bk,aci,Rl]
  have mK:=G6 (Fk G v i w (2^a) kb) (V.map fun n:Nat=>(n:Int)) (fun _=>Cn kb (nW G (w.take i))) (fun k=>match V[k]? with|some u=>Fj G v (nW G (w.take i)) (2^a) i w u (W u)|none=>false) (by rw [f0];exact CV) (fun k z bE _=>by
    rw [af3] at bE
    cases aA:V[k]? with
    | none=>rw [aA] at bE;cases bE
    | some u=>
      rw [aA] at bE
      cases bE
      have Rm:=d6 aA
      have Ro:=(Fo u Rm).1
      have:=gD.len iM Ro
      exact acx G iM v i w (2^a) kb _ ag Kh Kg cl ag u (by have:=(ET u Rm).1;omega) _ _ Ro ag)
  rw [← Qd] at mK;unfold Fk Cn rN gW at mK;unfold e9 gL bg at Ri;rw [ve] at Ri;refine dY ?_;refine aa.fc ai q C C C C C C C C C C ag ?_;refine aa.jv ai I _ C C C C C C C C C aZ (by rw [f0];show q*1+1≤_;omega) acG (fun I=>?_);refine dL ?_;refine aa.shl ((2^a:Nat):Int) C C C C C C ag (P4 ag) ?_;refine Gz I ?_;intro I;refine aa.bits 0 C C C C C C (by rw [q3 Kg Kh,qV];rfl) ?_;refine dL ?_;refine ae.cond C (fun h=>absurd h cP) (fun _=>?_);refine dL ?_;refine aa.b7 rfl rfl rfl rfl rfl mK I a1 ?_ (fun _ _ h _=>by rcases h with ⟨h,_⟩|⟨_,_,_,_,h,_⟩<;>cases h);rintro _ _ (⟨⟨⟩,rfl,h4⟩|⟨k,lO,hL,-,⟨⟩,rfl⟩) I
  · exfalso
    obtain ⟨k,aA⟩:=ag2 b0;have:=h4 k (by rw [f0];exact oe aA);rw [aA] at this;obtain ⟨rfl,rfl⟩:=(Fo y b0).1.J4 aeK;simp only [Fj] at this;rw [g7 (acm eQ),g7 aeI,aeG,g7 (acn zd),beq_self_eq_true] at this;cases this
  simp only [ad',d8] at I ⊢;refine gK I ?_;intro I;refine aa.bits _ C C C C C C (LH Kg Kh) ?_;refine gK I ?_;intro I;rw [← acH] at I ⊢
  exact bp.mk (i+1,Kd.set q true) I ⟨cl,by rw [ag3];exact Ke,fun Co h=>Fl (Fs Co h),Fl Kf,fun m hm=>by
    rw [hZ bk] at hm
    rcases ae4.1 hm with h|h
    · exact Fl (Ft m h)
    · rw [t6.1 h];exact Q9 ag⟩ ck a1 (by show w.length-(i+1)<w.length-i;omega)
def lK (w:World):bU:=fun b _=>b<w.heap.size
theorem acI (w:World):dq w (lK w) (fun _=>none):=⟨(fun _ _ h=>by cases h),fun _ _ h=>h⟩
theorem add_add (a:Addr) (x y:Nat):(a.add x).add y=a.add (x+y):=by
 unfold Addr.add;by_cases ab:x=0
 ·subst ab;simp
 ·by_cases ax:y=0
  ·subst ax;simp [ab]
  ·simp [ab,ax,an9]
theorem acJ {w:World} {a:Addr} {v:Value} (h:w.cell? a=some v):a.spot=none∧a.block<w.heap.size:=by
 unfold World.cell? at h;split at h
 ·rename_i c _ _ an
  refine ⟨?_,(Array.getElem?_eq_some_iff.1 an).1⟩;cases ar:a.spot with
  | none=>rfl
  | some s=>rw [ar] at h;simp at h
 ·cases h
theorem Rq {w:World} {a:Addr} {n:Nat} {cs:List Value} (h:w.cells? 0 a n=some cs):cs.length=n∧∀ i v,cs[i]? = some v→w.cell? (a.add i)=some v:=by
 unfold World.cells? at h;rw [g6 (g8 _)] at h;refine ⟨by simpa using mapM_some_length h,fun i v au=>?_⟩;have aN:i<n:=by
  have:=mapM_some_length h;rw [ap6] at this;rw [← this];exact (t7.1 au).1
 rw [mapM_some_get h i i (by rw [ar9 aN])];exact au
section
variable {H:Type} {enc:TypeId×Value→H} {w:World}
theorem Fv {sz:Nat}:∀ {vs:List Value},(∀ v∈vs,v.cells.size=sz)→(flat vs).length=vs.length*sz
  | [],_=>by simp [flat]
  | v::vs,h=>by
    have:=Fv (vs:=vs) (fun u hu=>h u (i6 _ hu));have au:=h v i8;simp only [flat,List.flatMap_cons,f8,i0] at this ⊢;rw [this,ae9,au,Nat.add_mul,Nat.one_mul,aq1]
theorem bJ.j7 {p:bU}:∀ {vs us:List Value} {xs ys:List af},bJ w p vs xs→bJ w p us ys→bJ w p (vs++us) (xs++ys)
 | _,_,_,_,.nil,h=>h
 | _,_,_,_,.cons v x vs xs h t,k => .cons _ _ _ _ h (bJ.j7 t k)
theorem acK (l r:List (DataW H)):Rows.uptoBulkAll (l++r)=Rows.uptoBulkAll l+Rows.uptoBulkAll r:=by
 induction l with
 | nil=>simp [Rows.uptoBulkAll]
 | cons x l aX=>simp only [ad',Rows.uptoBulkAll,aX];omega
theorem Rr {α:Type} {t e:TypeId} {sz fuel:Nat} {cs:List Value} {x:DataW H×List MemPlace} (f:α→af) (m:α→Nat) (aL : d0.underlying t=some (.slice e)) (aF : d0.cellsOf e=sz) (b':0<sz)
  (dH:∀ n cs y,n<fuel→DataW.trod enc d0 w 0 (fun _=>true) true n e cs=some y→cs.length=sz→∃ (a:α) (v:Value),v.cells.toList=cs∧Rel w (lK w) v (f a)∧m a≤Rows.uptoBulk y.1)
  (h:DataW.trod enc d0 w 0 (fun _=>true) true fuel t cs=some x) :
  ∃ (c:Value) (l:List α),cs=[c]∧Rel w (lK w) c (.aB sz (l.map f) .bc)∧(l.map m).sum+1≤Rows.uptoBulk x.1:=by
 rcases DataW.trod_slice aL h with ⟨rfl,rfl⟩|⟨a,len,cap,elems,rest,n,rfl,rfl,rfl,an,aE,hm,hlen,Rs,dz,Im⟩
 ·exact ⟨_,[],rfl,.hV _ _ ba,by simp [Rows.uptoBulk]⟩
 ·rw [aF] at Rs dz
  have key:∀ k,k≤len→∃ (l:List α) (vs:List Value),l.length=k∧bJ w (lK w) vs (l.map f)∧(∀ v∈vs,v.cells.size=sz)∧(∀ i u,(flat vs)[i]? = some u→w.cell? (a.add i)=some u) ∧
    (l.map m).sum≤Rows.uptoBulkAll ((elems.take k).map (·.1)):=by
   intro k
   induction k with
   | zero=>intro _;exact ⟨[],[],rfl,.nil,by simp,by simp [flat],by simp⟩
   | succ k aX=>
    intro aA;obtain ⟨l,vs,U,ad,aj,a',bz⟩:=aX ag;have Fw:elems[k]? = some (elems[k]' ag):=f7 ag;have an:=Rs k ag;rw [Fw,au7] at an;obtain ⟨cs',hE,ax⟩:=an;obtain ⟨g1,g2⟩:=Rq hE;obtain ⟨c8,v,cd,b1,ek⟩:=dH n cs' _ (am1 n) ax g1;have eO:vs.length=k:=by rw [ad.length,f0,U]
    refine ⟨l++[c8],vs++[v],by simp [U],?_,?_,?_,?_⟩
    ·rw [ae1];exact bJ.j7 ad (.cons _ _ _ _ b1 .nil)
    ·intro u hu
     rcases ae4.1 hu with hu|hu
     ·exact aj u hu
     ·simp only [t6] at hu
      subst hu;rw [← ae9,cd,g1]
    ·intro i u hu
     have a7:flat (vs++[v])=flat vs++cs':=by simp [flat,cd]
     rw [a7] at hu;by_cases aN:i<(flat vs).length
     ·rw [af' aN] at hu;exact a' i u hu
     ·rw [af0 ag,Fv aj,eO] at hu
      have:=g2 _ _ hu;rw [add_add] at this;rw [Fv aj,eO] at aN;rwa [show k*sz+(i-k*sz)=i by omega] at this
    ·rw [List.take_add_one,Fw]
     simp only [Option.toList_some,ae1,ae2,ah2,acK,List.sum_append,aq7,List.sum_nil,Rows.uptoBulkAll];omega
  obtain ⟨l,vs,U,ad,aj,a',bz⟩:=key len (g9 _);have eO:vs.length=len:=by rw [ad.length,f0,U]
  refine ⟨_,l,rfl,?_,?_⟩
  ·have nz:maxLen=9223372036854775807:=rfl
   by_cases ky:cap=0
   ·have uD:len=0:=by omega
    subst uD;subst ky;have:l=[]:=List.eq_nil_of_length_eq_zero U;subst this;exact .ir a _ _ (.inl C)
   ·have jC:∃ v,w.cell? a=some v:=by
     by_cases uD:len=0
     ·obtain ⟨aC,jj⟩:=dz rfl
      have Fw:rest[0]? = some (rest[0]' ag):=f7 ag;have:=jj 0 ag;rw [Fw,au7] at this;obtain ⟨cs',hE,-⟩:=this;obtain ⟨g1,g2⟩:=Rq hE;have:=g2 0 _ (f7 ag);rw [uD,add_add] at this;simp only [ao',au1,Addr.add,ag7] at this;exact ⟨_,this⟩
     ·have:=a' 0 _ (f7 (by rw [Fv aj,eO];exact Nat.mul_pos ag b'))
      simp only [Addr.add,ag7] at this;exact ⟨_,this⟩
    obtain ⟨v,au⟩:=jC;obtain ⟨ar,aw⟩:=acJ au;obtain ⟨g,off,spot⟩:=a;simp only at ar aw;subst ar;refine .aB g off len cap sz vs _ .bc ba (by rw [f0,U]) (fun i u hu=>⟨aw,?_⟩) ad aj ag aE ba ba;have:=a' i u hu;rwa [lo] at this
  ·simp only [Rows.uptoBulk]
   rw [ag8 ag] at bz;omega
theorem trod_int {t:TypeId} {fuel:Nat} {cs:List Value} {y:DataW H×List MemPlace} (aL : d0.underlying t=some (.int .i64)) (h:DataW.trod enc d0 w 0 (fun _=>true) true fuel t cs=some y) :
  ∃ n:Int,bJ w (lK w) cs [.int .i64 n]∧1≤Rows.uptoBulk y.1:=by
 obtain ⟨n,rfl,rfl,-⟩:=DataW.trod_int aL h;exact ⟨n,.cons _ _ _ _ (.int _ _) .nil,by simp [Rows.uptoBulk]⟩
theorem zC {α:Type} {t e:TypeId} {sz fuel:Nat} {cs:List Value} {x:DataW H×List MemPlace} (f:α→List af) (m:α→Nat) (aL : d0.underlying t=some (.slice e)) (aF : d0.cellsOf e=sz) (b':0<sz)
  (dH:∀ n cs y,n<fuel→DataW.trod enc d0 w 0 (fun _=>true) true n e cs=some y→∃ a:α,bJ w (lK w) cs (f a)∧m a≤Rows.uptoBulk y.1)
  (h:DataW.trod enc d0 w 0 (fun _=>true) true fuel t cs=some x) :
  ∃ l:List α,bJ w (lK w) cs [.aB sz (l.map fun a => .agg (f a)) .bc]∧(l.map m).sum+1≤Rows.uptoBulk x.1:=by
 obtain ⟨c,l,rfl,U,ad⟩:=Rr (fun a=>af.agg (f a)) m aL aF b' (fun n cs y az ax _=>by
  obtain ⟨a,g1,g2⟩:=dH n cs y az ax
  exact ⟨a,.agg cs.toArray,by simp [Value.cells],.agg _ _ (by simpa using g1),g2⟩) h
 exact ⟨l,.cons _ _ _ _ U .nil,ad⟩
theorem xY (l:List (DataW H)):Rows.uptoBulk (.agg l)=Rows.uptoBulkAll l+1:=by simp [Rows.uptoBulk]
def hq (aeD:String) (t:TypeId) (off acL:Nat):Field:={ name:=aeD,type:=t,offset:=off,embedded:=false,tag := "", pkgPath := "", byteOffset:=acL }
theorem acM {t:TypeId} {fuel:Nat} {cs:List Value} {y:DataW H×List MemPlace} (aL : d0.underlying t=some (.int .i64)) (h:DataW.trod enc d0 w 0 (fun _=>true) true fuel t cs=some y) :
  ∃ (n:Int) (v:Value),v.cells.toList=cs∧Rel w (lK w) v (.int .i64 n)∧1≤Rows.uptoBulk y.1:=by
 obtain ⟨n,rfl,rfl,-⟩:=DataW.trod_int aL h;exact ⟨n,.int .i64 n,rfl,.int _ _,by simp [Rows.uptoBulk]⟩
theorem Rt:∀ l:List Int,(l.map fun _=>1).sum=l.length
 | []=>rfl
 | _::r=>by rw [ae2,aq7,Rt r,i0];omega
theorem zD {fuel:Nat} {cs:List Value} {x:DataW H×List MemPlace} (h:DataW.trod enc d0 w 0 (fun _=>true) true fuel 23 cs=some x) :
  ∃ l:List Int,bJ w (lK w) cs [bg l]∧l.length+1≤Rows.uptoBulk x.1:=by
 obtain ⟨c,l,rfl,U,ad⟩:=Rr (sz:=1) (fun n=>af.int .i64 n) (fun _=>1) Tryz.underlying23 f' ag (fun _ _ _ _ h _=>acM Tryz.underlying3 h) h;rw [Rt] at ad;exact ⟨l,.cons _ _ _ _ U .nil,ad⟩
theorem Ru {α:Type}:∀ l:List α,l.length≤(l.map fun _=>1).sum
 | []=>g9 _
 | _::r=>by rw [ae2,aq7,i0];have:=Ru r;omega
def bw.weight (x:bw):Nat:=x.ms.length+1
theorem acN (fuel:Nat) (cs:List Value) (y:DataW H×List MemPlace) (h:DataW.trod enc d0 w 0 (fun _=>true) true fuel 69 cs=some y):∃ x:bw,bJ w (lK w) cs (gL x)∧bw.weight x≤Rows.uptoBulk y.1:=by
 obtain ⟨xs,n,rfl,rfl,aE,hlen,a7⟩:=DataW.trod_struct Tryz.underlying69 h;have Rv : d0.cellsOf 69 = 4:=by kernel_rfl
 have rO : d0.cellsOf 3 = 1:=by kernel_rfl
 have acO : d0.cellsOf 23 = 1:=by kernel_rfl
 rw [Rv] at aE
 match cs,aE,xs,hlen with
 | [v0,v1,v2,v3],_,[zE,pH,pI,Ki],_=>
  have bu:=a7 0 (hq "Atom" 3 0 0) C;have U:=a7 1 (hq "No" 3 1 8) C;have ad:=a7 2 (hq "Yes" 3 2 16) C;have aj:=a7 3 (hq "Methods" 23 3 24) C;simp only [hq,Rv,rO,acO,as4,ar4] at bu U ad aj;obtain ⟨a,g0,wa⟩:=trod_int Tryz.underlying3 bu;obtain ⟨no,g1,ha⟩:=trod_int Tryz.underlying3 U;obtain ⟨Kj,g2,dk⟩:=trod_int Tryz.underlying3 ad;obtain ⟨ms,g3,ny⟩:=zD aj;refine ⟨⟨a,no,Kj,ms⟩,?_,?_⟩
  ·have:gL ⟨a,no,Kj,ms⟩=[.int .i64 a]++([.int .i64 no]++([.int .i64 Kj]++[bg ms])):=rfl
   rw [this];exact bJ.j7 (vs:=[v0]) g0 (bJ.j7 (vs:=[v1]) g1 (bJ.j7 (vs:=[v2]) g2 g3))
  ·simp only [xY,ae2,ah2,Rows.uptoBulkAll,bw.weight]
   omega
theorem acP:∀ g:List bw,g.length≤(g.map bw.weight).sum
 | []=>g9 _
 | x::r=>by rw [ae2,aq7,i0];have:=acP r;unfold bw.weight at *;omega
theorem adO {fuel:Nat} {cs:List Value} {x:DataW H×List MemPlace} (h:DataW.trod enc d0 w 0 (fun _=>true) true fuel 28 cs=some x) :
  ∃ g:List bw,bJ w (lK w) cs [gW g]∧(g.map bw.weight).sum+1≤Rows.uptoBulk x.1:=by
 obtain ⟨g,U,ad⟩:=zC (sz:=4) gL bw.weight Tryz.underlying28 f' ag (fun m cs y _ ax=>acN m cs y ax) h;exact ⟨g,U,ad⟩
end
open Go.ChangeShapes Go.WideShapes Go.ChangeAt Go.RowKit
theorem Rw {H:Type} {enc:TypeId×Value→H} {P:Program} {W xZ:World} (aE:laidOutB P=true):∀ {gl:List TypeId} {vs:List Value} {cf:List (DataW H)} {ps:List MemPlace} {sp:Nat→Bool},(∀ t∈gl,P.readableRec t=true∧t<P.types.size) →
    DataW.TrodAll enc P W 0 (fun _=>true) true gl vs cf ps→(∀ p∈ps,W.sameAt xZ p)→(∀ p∈ps,sp p.block=true)→DataW.TrodAll enc P xZ 0 sp true gl vs cf ps
  | [],[],[],_,_,_,h,_,_=>h
  | t::gl,v::vs,d::cf,ps,sp,aL,h,ar,an=>by
    obtain ⟨p,q,U,ad,rfl⟩:=h;obtain ⟨fr,gx⟩:=aL t i8
    exact ⟨p,q,WideElems.Trod_stays aE fr gx U (fun x ab=>ar x (ai' _ ab)) (fun x ab=>an x (ai' _ ab)),
      Rw aE (fun t cW=>aL t (i6 _ cW)) ad (fun x ab=>ar x (an5 _ ab)) (fun x ab=>an x (an5 _ ab)),rfl⟩
  | [],[],_::_,_,_,_,h,_,_=>h.elim
  | [],_::_,_,_,_,_,h,_,_=>h.elim
  | _::_,[],_,_,_,_,h,_,_=>h.elim
  | _::_,_::_,[],_,_,_,h,_,_=>h.elim
theorem adP {H:Type} {enc:TypeId×Value→H} {f:FuncId} {fn:Func} {spec:ChangeSpec} {W:World} {args:Array Value} {xs:List af} {cf gs:List (DataW H)} {before:List MemPlace}
  (aE:laidOutB d0=true) (aD:∀ t∈fn.params.toList,d0.readableRec t=true∧t < d0.types.size) (aC:fn.resultTypes = #[4]) (au:spec.vars=[])
  (dz:gs=[]→spec.fn H (cf++gs)={ results:=[.lit (.bool true)],args:=cf })
  (fw:DataW.Whole enc d0 fn.params.toList spec.vars false W args.toList cf gs before) (eT:bJ W (lK W) args.toList xs) (aF:hh d0 f xs (fun _=>none) (fun o ak=>o = .ret (.bool true)∧ak=fun _=>none)) :
  Calls d0 f args W fun e xZ=>∃ v,e = .returned v∧spec.post enc d0 fn false true false false W args v xZ:=by
 have h:=aF.2 W (lK W) args.toList (acI W) eT;rw [Array.toArray_toList] at h;refine Calls.mono h fun e xZ ⟨cE,o,ak,bj,qD,⟨ah,hF⟩,hle,aA,cg⟩=>?_
 subst ah;cases e with
 | returned v=>
  have an:Rel xZ bj v (.bool true):=qD;cases an;have Rx:Below W.heap.size W xZ:=⟨hle.os,hle.tape,hle.output,hle.size,fun k eF=>aA.heap k eF C⟩;have aw:=fw.lt;have acQ:=fw;obtain ⟨p,q,h7,JH,rfl,adQ,eM⟩:=fw;rw [au] at JH;obtain ⟨rfl,rfl⟩:=trodVars_none JH;have zb:=dz C;refine ⟨_,rfl,cf,[],_,[],p,[],acQ,?_,?_,?_,Rx.frame _,fun h=>by cases h⟩
  ·rw [zb,aC]
   exact trodAll_cons_mk (shut_bool Tryz.underlying4 _) trodAll_mk0
  ·rw [zb]
   exact Rw aE aD h7 (fun x ab=>Rx.same (aw x uj)) (fun x ab=>by simpa using aw x uj)
  ·rw [zb,au];exact rfl
 | panicked dA=>exact qD.elim
 | outgrown=>exact qD.elim
theorem adR {P:Program} {W:World} {r:Reach} {b:Nat} {t e:TypeId} {v:Value} (aL:P.underlying t=some (.slice e)) (h:Value.okWide P W r b t v):v.cells = #[v]:=by
 obtain ⟨a,n,c,rfl⟩:=okWide_slice aL h;rfl
theorem adS {P:Program} {W:World} {r:Reach} {b:Nat} {t:TypeId} {gG:Array Field} {v:Value} (aL:P.underlying t=some (.struct gG)) (h:Value.okWide P W r b t v):∃ cs,v = .agg cs:=by
 obtain ⟨cs,U,-⟩:=okWide_struct aL h;exact ⟨cs,U⟩
theorem adT {w:World} {p:bU} {v:Value} {x:af} (au:v.cells = #[v]) (h:bJ w p v.cells.toList [x]):Rel w p v x:=by
 rw [au] at h;cases h with
 | cons _ _ _ _ h _=>exact h
theorem adU {w:World} {p:bU} {v:Value} {xs:List af} (au:∃ cs,v = .agg cs) (h:bJ w p v.cells.toList xs):Rel w p v (.agg xs):=by
 obtain ⟨cs,rfl⟩:=au;exact .agg _ _ h
theorem adV {P:Program} {W:World} {r:Reach} {b:Nat} {t:TypeId} {v:Value} {k:IntKind} (aL:P.underlying t=some (.int k)) (h:Value.okWide P W r b t v):v.cells = #[v]:=by
 obtain ⟨n,rfl⟩:=okWide_int aL h;rfl
theorem laidOut:laidOutB d0=true:=by kernel_rfl
theorem Cp {α:Type} {m:α→Nat}:∀ {l:List α} {x:α},x∈l→m x≤(l.map m).sum
  | y::r,x,h=>by
    rw [ae2,aq7];rcases af1.1 h with rfl|h
    · omega
    · have:=Cp (m:=m) h;omega
mutual
def ao.weight:ao→Nat
 | .mk _ _ p _ _ ks=>p.length+6+ao.weights ks
def ao.weights:List ao→Nat
 | []=>0
 | k::r=>ao.weight k+ao.weights r
end
theorem ao.Ry:∀ l:List ao,ao.weights l=(l.map ao.weight).sum
 | []=>rfl
 | k::r=>by rw [ao.weights,ao.Ry r];rfl
mutual
theorem ao.Rz:∀ f:ao,f.size≤ao.weight f
  | .mk o a p c n ks=>by
    have h:=ao.RA ks;have e:=(ao.mk o a p c n ks).size_eq;have U:(ao.mk o a p c n ks).kids=ks:=rfl;have ad:(ao.mk o a p c n ks).path=p:=rfl;rw [U,ad] at e;rw [ao.weight];omega
theorem ao.RA:∀ l:List ao,ao.iC l≤ao.weights l
  | []=>g8 _
  | k::r=>by
    have U:=ao.Rz k;have ad:=ao.RA r;rw [ao.iC,ao.weights];omega
end
theorem acR (ks:List ao):(ks.map fun a=>af.agg a.cells)=ks.map ao.bW:=by
 congr 1;funext a;exact (ao.cp a).symm
section
variable {H:Type} {enc:TypeId×Value→H} {w:World}
theorem acS:∀ (fuel:Nat) (cs:List Value) (y:DataW H×List MemPlace),DataW.trod enc d0 w 0 (fun _=>true) true fuel 58 cs=some y→∃ e:ao,bJ w (lK w) cs (ao.cells e)∧ao.weight e≤Rows.uptoBulk y.1:=by
 intro fuel
 induction fuel using Nat.strongRecOn with
 | _ fuel aX=>
 intro cs y h;obtain ⟨xs,n,rfl,rfl,aE,hlen,a7⟩:=DataW.trod_struct Tryz.underlying58 h;have Fx : d0.cellsOf 58 = 6:=by kernel_rfl
 have acT : d0.cellsOf 56 = 1:=by kernel_rfl
 have rO : d0.cellsOf 3 = 1:=by kernel_rfl
 have x0 : d0.cellsOf 23 = 1:=by kernel_rfl
 have acU : d0.cellsOf 47 = 1:=by kernel_rfl
 rw [Fx] at aE
 match cs,aE,xs,hlen with
 | [v0,v1,v2,v3,v4,v5],_,[zE,pH,pI,Ki,aeL,aeF],_=>
  have bu:=a7 0 (hq "Op" 56 0 0) C;have U:=a7 1 (hq "Arg" 3 1 8) C;have ad:=a7 2 (hq "Path" 23 2 16) C;have aj:=a7 3 (hq "Class" 3 3 40) C;have a':=a7 4 (hq "N" 3 4 48) C;have bz:=a7 5 (hq "Kids" 47 5 56) C;simp only [hq,Fx,acT,rO,x0,acU,as4,ar4] at bu U ad aj a' bz;obtain ⟨a0,g0,wa⟩:=trod_int Tryz.underlying56 bu;obtain ⟨dN,g1,ha⟩:=trod_int Tryz.underlying3 U;obtain ⟨a2,g2,dk⟩:=zD ad;obtain ⟨a3,g3,ny⟩:=trod_int Tryz.underlying3 aj;obtain ⟨a4,g4,oE⟩:=trod_int Tryz.underlying3 a';obtain ⟨a5,g5,B7⟩:=zC (sz:=6) ao.cells ao.weight Tryz.underlying47 f' ag (fun m cs y hm ax=>aX m ag cs y ax) bz;refine ⟨.mk a0 dN a2 a3 a4 a5,?_,?_⟩
  ·have:ao.cells (ao.mk a0 dN a2 a3 a4 a5)=[.int .i64 a0]++([.int .i64 dN]++([bg a2]++([.int .i64 a3]++([.int .i64 a4]++([.aB 6 (a5.map fun a => .agg (ao.cells a)) .bc]))))):=by rw [acR];rfl
   rw [this];exact bJ.j7 (vs:=[v0]) g0 (bJ.j7 (vs:=[v1]) g1 (bJ.j7 (vs:=[v2]) g2 (bJ.j7 (vs:=[v3]) g3 (bJ.j7 (vs:=[v4]) g4 (g5)))))
  ·simp only [xY,ae2,ah2,Rows.uptoBulkAll,ao.weight,ao.Ry]
   omega
def Fy (x:iR):List af:=[.int .i64 x.slot,.int .i64 x.n]
def iR.weight (_x:iR):Nat:=2
theorem acV (fuel:Nat) (cs:List Value) (y:DataW H×List MemPlace) (h:DataW.trod enc d0 w 0 (fun _=>true) true fuel 241 cs=some y):∃ e:iR,bJ w (lK w) cs (Fy e)∧iR.weight e≤Rows.uptoBulk y.1:=by
 obtain ⟨xs,n,rfl,rfl,aE,hlen,a7⟩:=DataW.trod_struct Tryz.underlying241 h;have RB : d0.cellsOf 241 = 2:=by kernel_rfl
 have rO : d0.cellsOf 3 = 1:=by kernel_rfl
 rw [RB] at aE
 match cs,aE,xs,hlen with
 | [v0,v1],_,[zE,pH],_=>
  have bu:=a7 0 (hq "Slot" 3 0 0) C;have U:=a7 1 (hq "N" 3 1 8) C;simp only [hq,RB,rO,as4,ar4] at bu U;obtain ⟨a0,g0,wa⟩:=trod_int Tryz.underlying3 bu;obtain ⟨dN,g1,ha⟩:=trod_int Tryz.underlying3 U;refine ⟨iR.mk a0 dN,?_,?_⟩
  ·have:Fy (iR.mk a0 dN)=[.int .i64 a0]++([.int .i64 dN]):=rfl
   rw [this];exact bJ.j7 (vs:=[v0]) g0 (g1)
  ·simp only [xY,ae2,ah2,Rows.uptoBulkAll,iR.weight]
   omega
def fM.weight (x:fM):Nat:=x.parents.length+x.bn.length+(x.inits.map iR.weight).sum+3
theorem acW (fuel:Nat) (cs:List Value) (y:DataW H×List MemPlace) (h:DataW.trod enc d0 w 0 (fun _=>true) true fuel 76 cs=some y):∃ e:fM,bJ w (lK w) cs (m4 e)∧fM.weight e≤Rows.uptoBulk y.1:=by
 obtain ⟨xs,n,rfl,rfl,aE,hlen,a7⟩:=DataW.trod_struct Tryz.underlying76 h;have RC : d0.cellsOf 76 = 3:=by kernel_rfl
 have x0 : d0.cellsOf 23 = 1:=by kernel_rfl
 have acX : d0.cellsOf 74 = 1:=by kernel_rfl
 rw [RC] at aE
 match cs,aE,xs,hlen with
 | [v0,v1,v2],_,[zE,pH,pI],_=>
  have bu:=a7 0 (hq "Parents" 23 0 0) C;have U:=a7 1 (hq "Slots" 23 1 24) C;have ad:=a7 2 (hq "Inits" 74 2 48) C;simp only [hq,RC,x0,acX,as4,ar4] at bu U ad;obtain ⟨a0,g0,wa⟩:=zD bu;obtain ⟨dN,g1,ha⟩:=zD U;obtain ⟨a2,g2,dk⟩:=zC (sz:=2) Fy iR.weight Tryz.underlying74 f' ag (fun m cs y _ ax=>acV m cs y ax) ad;refine ⟨fM.mk a0 dN a2,?_,?_⟩
  ·have:m4 (fM.mk a0 dN a2)=[bg a0]++([bg dN]++([.aB 2 (a2.map fun a => .agg (Fy a)) .bc])):=rfl
   rw [this];exact bJ.j7 (vs:=[v0]) g0 (bJ.j7 (vs:=[v1]) g1 (g2))
  ·simp only [xY,ae2,ah2,Rows.uptoBulkAll,fM.weight]
   omega
def hS.weight (x:hS):Nat:=ao.weight x.fact+3
theorem acY (fuel:Nat) (cs:List Value) (y:DataW H×List MemPlace) (h:DataW.trod enc d0 w 0 (fun _=>true) true fuel 89 cs=some y):∃ e:hS,bJ w (lK w) cs (pa e)∧hS.weight e≤Rows.uptoBulk y.1:=by
 obtain ⟨xs,n,rfl,rfl,aE,hlen,a7⟩:=DataW.trod_struct Tryz.underlying89 h;have RD : d0.cellsOf 89 = 9:=by kernel_rfl
 have acZ : d0.cellsOf 87 = 1:=by kernel_rfl
 have rO : d0.cellsOf 3 = 1:=by kernel_rfl
 have Fx : d0.cellsOf 58 = 6:=by kernel_rfl
 rw [RD] at aE
 match cs,aE,xs,hlen with
 | [v0,v1,v2,v3,v4,v5,v6,aeo,aeh],_,[zE,pH,pI,Ki],_=>
  have bu:=a7 0 (hq "Kind" 87 0 0) C;have U:=a7 1 (hq "Gen" 3 1 8) C;have ad:=a7 2 (hq "Fact" 58 2 16) C;have aj:=a7 3 (hq "Node" 3 8 96) C;simp only [hq,RD,acZ,rO,Fx,as4,ar4] at bu U ad aj;obtain ⟨a0,g0,wa⟩:=trod_int Tryz.underlying87 bu;obtain ⟨dN,g1,ha⟩:=trod_int Tryz.underlying3 U;obtain ⟨a2,g2,dk⟩:=acS _ _ _ ad;obtain ⟨a3,g3,ny⟩:=trod_int Tryz.underlying3 aj;refine ⟨hS.mk a0 dN a2 a3,?_,?_⟩
  ·have:pa (hS.mk a0 dN a2 a3)=[.int .i64 a0]++([.int .i64 dN]++((ao.cells a2)++([.int .i64 a3]))):=by simp only [pa,ao.cells,ad',d8]
   rw [this];exact bJ.j7 (vs:=[v0]) g0 (bJ.j7 (vs:=[v1]) g1 (bJ.j7 (vs:=[v2,v3,v4,v5,v6,aeo]) g2 (g3)))
  ·simp only [xY,ae2,ah2,Rows.uptoBulkAll,hS.weight]
   omega
def iS.weight (x:iS):Nat:=x.kids.length+3
theorem ac0 (fuel:Nat) (cs:List Value) (y:DataW H×List MemPlace) (h:DataW.trod enc d0 w 0 (fun _=>true) true fuel 85 cs=some y):∃ e:iS,bJ w (lK w) cs (k3 e)∧iS.weight e≤Rows.uptoBulk y.1:=by
 obtain ⟨xs,n,rfl,rfl,aE,hlen,a7⟩:=DataW.trod_struct Tryz.underlying85 h;have RE : d0.cellsOf 85 = 3:=by kernel_rfl
 have ac1 : d0.cellsOf 83 = 1:=by kernel_rfl
 have rO : d0.cellsOf 3 = 1:=by kernel_rfl
 have x0 : d0.cellsOf 23 = 1:=by kernel_rfl
 rw [RE] at aE
 match cs,aE,xs,hlen with
 | [v0,v1,v2],_,[zE,pH,pI],_=>
  have bu:=a7 0 (hq "Op" 83 0 0) C;have U:=a7 1 (hq "N" 3 1 8) C;have ad:=a7 2 (hq "Kids" 23 2 16) C;simp only [hq,RE,ac1,rO,x0,as4,ar4] at bu U ad;obtain ⟨a0,g0,wa⟩:=trod_int Tryz.underlying83 bu;obtain ⟨dN,g1,ha⟩:=trod_int Tryz.underlying3 U;obtain ⟨a2,g2,dk⟩:=zD ad;refine ⟨iS.mk a0 dN a2,?_,?_⟩
  ·have:k3 (iS.mk a0 dN a2)=[.int .i64 a0]++([.int .i64 dN]++([bg a2])):=rfl
   rw [this];exact bJ.j7 (vs:=[v0]) g0 (bJ.j7 (vs:=[v1]) g1 (g2))
  ·simp only [xY,ae2,ah2,Rows.uptoBulkAll,iS.weight]
   omega
def bR.weight (x:bR):Nat:=(x.cm.map fM.weight).sum+x.dV.length+(x.methods.map hS.weight).sum+(x.nodes.map iS.weight).sum+6
theorem adW (fuel:Nat) (cs:List Value) (y:DataW H×List MemPlace) (h:DataW.trod enc d0 w 0 (fun _=>true) true fuel 27 cs=some y):∃ e:bR,bJ w (lK w) cs (c1 e)∧bR.weight e≤Rows.uptoBulk y.1:=by
 obtain ⟨xs,n,rfl,rfl,aE,hlen,a7⟩:=DataW.trod_struct Tryz.underlying27 h;have RF : d0.cellsOf 27 = 6:=by kernel_rfl
 have ac2 : d0.cellsOf 22 = 1:=by kernel_rfl
 have rO : d0.cellsOf 3 = 1:=by kernel_rfl
 have x0 : d0.cellsOf 23 = 1:=by kernel_rfl
 have ac3 : d0.cellsOf 24 = 1:=by kernel_rfl
 have ac4 : d0.cellsOf 25 = 1:=by kernel_rfl
 rw [RF] at aE
 match cs,aE,xs,hlen with
 | [v0,v1,v2,v3,v4,v5],_,[zE,pH,pI,Ki,aeL,aeF],_=>
  have bu:=a7 0 (hq "Classes" 22 0 0) C;have U:=a7 1 (hq "Slots" 3 1 24) C;have ad:=a7 2 (hq "Gens" 23 2 32) C;have aj:=a7 3 (hq "Methods" 24 3 56) C;have a':=a7 4 (hq "Nodes" 25 4 80) C;have bz:=a7 5 (hq "Main" 3 5 104) C;simp only [hq,RF,ac2,rO,x0,ac3,ac4,as4,ar4] at bu U ad aj a' bz;obtain ⟨a0,g0,wa⟩:=zC (sz:=3) m4 fM.weight Tryz.underlying22 f' ag (fun m cs y _ ax=>acW m cs y ax) bu;obtain ⟨dN,g1,ha⟩:=trod_int Tryz.underlying3 U;obtain ⟨a2,g2,dk⟩:=zD ad;obtain ⟨a3,g3,ny⟩:=zC (sz:=9) pa hS.weight Tryz.underlying24 f' ag (fun m cs y _ ax=>acY m cs y ax) aj;obtain ⟨a4,g4,oE⟩:=zC (sz:=3) k3 iS.weight Tryz.underlying25 f' ag (fun m cs y _ ax=>ac0 m cs y ax) a';obtain ⟨a5,g5,B7⟩:=trod_int Tryz.underlying3 bz;refine ⟨bR.mk a0 dN a2 a3 a4 a5,?_,?_⟩
  ·have:c1 (bR.mk a0 dN a2 a3 a4 a5)=[.aB 3 (a0.map fun a => .agg (m4 a)) .bc]++([.int .i64 dN]++([bg a2]++([.aB 9 (a3.map fun a => .agg (pa a)) .bc]++([.aB 3 (a4.map fun a => .agg (k3 a)) .bc]++([.int .i64 a5]))))):=rfl
   rw [this];exact bJ.j7 (vs:=[v0]) g0 (bJ.j7 (vs:=[v1]) g1 (bJ.j7 (vs:=[v2]) g2 (bJ.j7 (vs:=[v3]) g3 (bJ.j7 (vs:=[v4]) g4 (g5)))))
  ·simp only [xY,ae2,ah2,Rows.uptoBulkAll,bR.weight]
   omega
def zF (_v:Int×Int):Nat:=2
def eH.weight (x:eH):Nat:=(x.bn.map zF).sum+2
structure Ask where
 bh:List eH
 gen:Int
 args:List (Int×Int)
def Ask.weight (x:Ask):Nat:=(x.bh.map eH.weight).sum+(x.args.map zF).sum+3
end
theorem bR.small {p:bR} (h:bR.weight p≤1048576):gC p:=by
 have an:=bG;unfold bR.weight at h;have U:=Ru p.cm;have ar:∀ {α:Type} (l:List α) (m:α→Nat),(∀ x,1≤m x)→l.length≤(l.map m).sum:=fun l m hm=>by
  induction l with
  | nil=>exact g8 _
  | cons x r aX=>rw [ae2,aq7,i0];have:=hm x;omega
 have cQ:=ar p.cm fM.weight (fun x=>by unfold fM.weight;omega);have cV:=ar p.methods hS.weight (fun x=>by unfold hS.weight;omega);have e3:=ar p.nodes iS.weight (fun x=>by unfold iS.weight;omega);refine ⟨by omega,fun c aF=>?_,by omega,by omega,fun m hm=>?_,by omega,fun x ab=>?_⟩
 ·have:=Cp (m:=fM.weight) aF
  unfold fM.weight at this;have:=ar c.inits iR.weight (fun x=>by unfold iR.weight;omega);unfold fM.weight at *;omega
 ·have:=Cp (m:=hS.weight) hm
  have:=ao.Rz m.fact;unfold hS.weight at *;omega
 ·have:=Cp (m:=iS.weight) ab
  unfold iS.weight at *;omega
theorem Ask.small {x:Ask} (h:Ask.weight x≤1048576):x.bh.length<bB∧(∀ o∈x.bh,o.bn.length<bB)∧x.args.length<bB:=by
 have an:=bG;unfold Ask.weight at h;have ar:∀ {α:Type} (l:List α) (m:α→Nat),(∀ x,1≤m x)→l.length≤(l.map m).sum:=fun l m hm=>by
  induction l with
  | nil=>exact g8 _
  | cons x r aX=>rw [ae2,aq7,i0];have:=hm x;omega
 have cQ:=ar x.bh eH.weight (fun x=>by unfold eH.weight;omega);have cV:=ar x.args zF (fun x=>by unfold zF;omega);refine ⟨by omega,fun o ah=>?_,by omega⟩;have:=Cp (m:=eH.weight) ah;have:=ar o.bn zF (fun x=>by unfold zF;omega);unfold eH.weight at *;omega
theorem adX:mapsRowed d0=true:=by kernel_rfl
theorem adY:(d0.stops==[])=true:=by kernel_rfl
theorem adZ:(d0.stopKnobs==[])=true:=by kernel_rfl
theorem ad0 : d0.stopsHeard=true:=by kernel_rfl
theorem ad1 : d0.mayEnter=true:=by kernel_rfl
theorem ad2:(Rows.treeSmallsUptoRow.lifted == d0.liftsFinal)=true:=by kernel_rfl
theorem ad3:(d0.make==some Rows.treeSmallsUptoRow.make)=true:=by kernel_rfl
theorem ad4:(Rows.treeSmallsUptoRow.plainKeys == d0.plainKeys)=true:=by kernel_rfl
end Go.Proofs.YtnafpeohfbglmaaGreat
