import Derived.Test.YtnafpeohfbglmaaGreatSf
import Derived.Laws.Bits64
set_option linter.unusedVariables false
set_option linter.unusedSimpArgs false
set_option maxRecDepth 100000
set_option maxHeartbeats 4000000
open Array renaming getD_eq_getD_getElem?→ag1,getElem?_eq_some_iff→i9,toArray_toList→an'
open Bool renaming and_eq_true→f8,and_true→aq5,eq_iff_iff→af7,false_and→f9,false_eq_true→af8,false_or→ag6,or_false→am3,true_and→f5,true_or→ak3
open Int renaming ofNat→aq1,toNat_natCast→ae1
open Go.IntKind renaming bits→am7,wrap→t7
open List renaming all_cons→ak6,all_nil→ao3,any_append→ay2,any_eq_true→ag4,append_assoc→ah0,append_nil→d6,cons_append→aa',cons→as',contains_cons→aq0,contains_iff_mem→ah8,drop_length→ax7,drop_nil→aw9,drop_replicate→aA2,drop_succ_cons→ar4,drop_zero→am6,drop→as4,findIdx?_append→az3,findIdx?_eq_none_iff→ai2,findIdx?_eq_some_iff_getElem→ah3,foldl_cons→ah7,foldl_nil→au4,getD_eq_getElem?_getD→d7,getElem?_drop→as2,getElem?_eq_getElem→f7,getElem?_eq_some_iff→ae2,getElem?_map→ae4,getElem?_of_mem→ai0,getElem?_set_ne→an8,getElem?_set_self→aj9,length_append→f6,length_cons→g9,length_drop→ai1,length_filter_le→aj2,length_map→d9,length_nil→af6,length_range→ap5,length_replicate→af3,length_reverse→at1,length_set→af1,map_append→ad',map_cons→ae3,map_map→au1,map_nil→ah1,map_replicate→au0,map_set→al',map_take→ar7,mem_append_left→aj0,mem_append_right→ao6,mem_append→ae',mem_cons_of_mem→i0,mem_cons_self→i6,mem_cons→af2,mem_filter→ah6,mem_map→af',mem_of_getElem?→d5,mem_of_mem_drop→av4,mem_or_eq_of_mem_set→aj7,mem_range→ak5,mem_singleton→H1,nil_append→d8,nodup_append→ap4,nodup_nil→au3,perm_append_singleton→aw8,range→ag3,replicate→t6,reverse_append→az',set_cons_zero→ar',set_set→ar1,take_add_one→am2,take_append_of_le_length→ai7,take_length→ae5,take_of_length_le→ag9,take_zero→al4
open Nat renaming add_mul→ak7,add_sub_cancel→aw1,add_zero→ao',and_le_left→av3,beq→af0,ble_eq→ax2,blt→t8,eq_of_beq_eq_true→ae0,le_refl→g8,lt_of_le_of_lt→ak1,lt_of_lt_of_le→al2,lt_trichotomy→as5,min_eq_left→am8,mul_one→ag',pow_le_pow_right→ag2,pow_lt_pow_right→ai',pow_succ→ao2,shiftRight_le→ap3,sub_zero→av0,testBit_and→al9,testBit_lt_two_pow→an0,zero_add→af5,zero_le→g7
open Option renaming getD_some→af9
open Go.Proofs.Tryz renaming prog→d0
namespace Go.Proofs.YtnafpeohfbglmaaGreat
theorem OR {p:Prop} (h:p:=by (first|rw [dz (by omega) (by omega)]|(simp only [gm,List.length_append,List.length_cons,List.length_nil];done)|rfl)):p:=h
theorem OS {p:Prop} (h:p:=by rw [aE,Int.toNat_natCast,List.getD_eq_getElem?_getD,List.getElem?_eq_getElem (by omega)];rfl):p:=h
theorem o9 {p:Prop} (h:p:=by show p.methods.length-(j+1)<p.methods.length-j;omega):p:=h
theorem vx {p:Prop} (h:p:=by (rw [dz (by omega) (by omega),OT])):p:=h
theorem EN {p:Prop} (h:p:=by show (done.length+1)*48≤_;omega):p:=h
theorem zq {p:Prop} (h:p:=by show (_+1)*80≤_;omega):p:=h
theorem B2 {p:Prop} (h:p:=by rw [List.length_map]):p:=h
theorem vy {p:Prop} (h:p:=by show m<m+1;omega):p:=h
theorem vz {p:Prop} (h:p:=by show c<c+1;omega):p:=h
def I6 (es:List (ag×ag)):Prop:=∀ e∈es,∃ n:Int,e.1 = .int .i64 n
theorem I7 {x:Int} {v:ag}:∀ {es:List (ag×ag)},I6 es→∃ dF,lZ es (.int .i64 x) v=some dF∧I6 dF∧∀ y:Int,jj dF (.int .i64 y)=if y=x then some (some v) else jj es (.int .i64 y)
  | [],_=>⟨[(.int .i64 x,v)],rfl,fun e he=>by rw [H1.1 he];exact ⟨x,rfl⟩,fun y=>by
    rw [jj,jj]
    by_cases h:y=x
    · subst h;simp [kj]
    · have:(y==x)=false:=by rw [beq_eq_false_iff_ne];exact h
      simp only [kj,ag7,this,f0 h];rfl⟩
  | e::r,h=>by
    obtain ⟨n,az⟩:=h e i6;obtain ⟨k,u⟩:=e;have az:k = .int .i64 n:=az;subst az;by_cases ab:n=x
    · subst ab
      refine ⟨(.int .i64 n,v)::r,by rw [lZ];simp [kj],fun e he=>?_,fun y=>?_⟩
      · rcases af2.1 he with rfl|he
        · exact ⟨n,rfl⟩
        · exact h e (i0 _ he)
      · rw [jj,jj]
        by_cases ay:y=n
        · subst ay;simp [kj]
        · have:(y==n)=false:=by rw [beq_eq_false_iff_ne];exact ay
          simp only [kj,ag7,this,f0 ay]
    · obtain ⟨dF,U,ad,al⟩:=I7 (x:=x) (v:=v) (es:=r) fun e he=>h e (i0 _ he)
      have an:(x==n)=false:=by rw [beq_eq_false_iff_ne];exact fun e=>ab e.symm
      refine ⟨(.int .i64 n,u)::dF,by rw [lZ];simp only [kj,ag7,an,U],fun e he=>?_,fun y=>?_⟩
      · rcases af2.1 he with rfl|he
        · exact ⟨n,rfl⟩
        · exact ad e he
      · rw [jj,jj,al]
        by_cases ay:y=n
        · subst ay
          simp [kj,ab]
        · have:(y==n)=false:=by rw [beq_eq_false_iff_ne];exact ay
          simp only [kj,ag7,this]
structure qR (num:List (ag×ag)) (order path:List Int):Prop where
 int:I6 num
 get:∀ x:Int,jj num (.int .i64 x)=some (if order.contains x then some (.int .i64 (placeOf order x)) else if path.contains x then some (.int .i64 (-1)) else none)
theorem qR.empty:qR [] [] []:=⟨fun _ h=>ot,fun _=>rfl⟩
theorem qR.enter {num:List (ag×ag)} {order path:List Int} (h:qR num order path) {eX:Int} (U:order.contains eX=false) :
  ∃ vA,lZ num (.int .i64 eX) (.int .i64 (-1))=some vA∧qR vA order (eX::path):=by
 obtain ⟨es,ad,al,bf⟩:=I7 (x:=eX) (v := .int .i64 (-1)) h.int;refine ⟨es,ad,al,fun x=>?_⟩;rw [bf,h.get,aq0];by_cases ab:x=eX
 ·subst ab
  rw [g6 C,U];simp
 ·rw [f0 ab,show (x==eX)=false by rw [beq_eq_false_iff_ne];exact ab,ag6]
theorem YH {order:List Int} {eX:Int} (h:order.contains eX=false):placeOf (order++[eX]) eX=(order.length:Int):=by
 unfold placeOf;have:(order++[eX]).findIdx? (· == eX)=some order.length:=by
  rw [az3];have az:order.findIdx? (· == eX)=none:=by
   rw [ai2];intro x ab;rw [beq_eq_false_iff_ne];rintro rfl;rw [ah8.2 ab] at h;cases h
  rw [az];simp [List.findIdx?_cons]
 rw [this];rfl
theorem YI {order:List Int} {eX x:Int} (h:order.contains x=true):placeOf (order++[eX]) x=placeOf order x:=by
 unfold placeOf;rw [az3];cases a7:order.findIdx? (· == x) with
 | some i=>rfl
 | none=>
  rw [ai2] at a7;have:=a7 x (ah8.1 h);simp at this
theorem qR.leave {num:List (ag×ag)} {order path:List Int} {eX:Int} (h:qR num order (eX::path)) (U:order.contains eX=false) :
  ∃ vA,lZ num (.int .i64 eX) (.int .i64 (order.length:Int))=some vA∧qR vA (order++[eX]) path:=by
 obtain ⟨es,ad,al,bf⟩:=I7 (x:=eX) (v := .int .i64 (order.length:Int)) h.int;refine ⟨es,ad,al,fun x=>?_⟩;rw [bf,h.get,List.contains_append,aq0,aq0];by_cases ab:x=eX
 ·subst ab
  rw [g6 C,U,YH U];simp
 ·rw [f0 ab,show (x==eX)=false by rw [beq_eq_false_iff_ne];exact ab,ag6,ag6]
  cases aB:order.contains x with
  | true=>rw [YI aB];simp
  | false=>simp
theorem YJ {order:List Int} {x:Int} (h:order.contains x=false):placeOf order x=0:=by
 unfold placeOf;have az:order.findIdx? (· == x)=none:=by
  rw [ai2];intro y ay;rw [beq_eq_false_iff_ne];rintro rfl;rw [ah8.2 ay] at h;cases h
 rw [az];rfl
theorem OU (order:List Int) (x:Int):0≤placeOf order x∧placeOf order x≤order.length:=by
 unfold placeOf;cases a7:order.findIdx? (· == x) with
 | none=>exact ⟨by simp,by simp⟩
 | some i=>
  have:=(ah3.1 a7).1;simp;omega
structure nD (n:Nat) (order:List Int):Prop where
 nodup:order.Nodup
 lt:∀ x∈order,0≤x∧x<n
theorem nD.len {n:Nat} {order:List Int} (h:nD n order):order.length≤n:=by
 have ad:order ⊆ (ag3 n).map (fun i:Nat=>(i:Int)):=fun x ab=>by
  have:=h.lt x ab;exact af'.2 ⟨x.toNat,ak5.2 af,by omega⟩
 have:=List.Nodup.length_le_of_subset h.nodup ad;simpa using this
def Down (N:List bP):Prop:=∀ (i:Nat) (x:bP),N[i]? = some x→x.atom≥0→(i:Int)<x.no∧x.no<N.length∧(i:Int)<x.yes∧x.yes<N.length
theorem B3 {N:List bP} {k a:Nat} {order:List Int} {x:bP} (ab:N[a]? = some x):meet N (k+1) order a=if order.contains (a:Int) then order else (if x.atom≥0 then meet N k (meet N k order x.yes) x.no else order)++[(a:Int)]:=by
 rw [meet];simp only [ae1,d7,ab,af9]
theorem nD.snoc {n:Nat} {order:List Int} (h:nD n order) {a:Nat} (a6:a<n) (az:(a:Int)∉order):nD n (order++[(a:Int)]):=⟨by
 rw [ap4]
 refine ⟨h.nodup,by simp,fun x ab y ay=>?_⟩
 rw [H1.1 ay]
 rintro rfl
 exact az ab,fun x ab=>by
 rcases ae'.1 ab with ab|ab
 ·exact h.lt x ab
 ·rw [H1.1 ab];omega⟩
theorem sV {N:List bP} (eI:Down N):∀ (k a:Nat),a<N.length→N.length-a≤k→∀ order:List Int,nD N.length order→nD N.length (meet N k order a)∧∀ y∈meet N k order a,y∈order∨(a:Int)≤y
  | 0,a,U,ad,_,_=>by omega
  | k+1,a,U,ad,order,ai=>by
    obtain ⟨x,ab⟩:∃ x,N[a]? = some x:=⟨_,f7 U⟩;rw [B3 ab];cases aB:order.contains (a:Int) with
    | true=>rw [g6 C];exact ⟨ai,fun y h => .inl h⟩
    | false=>
      rw [f0 ba];have key:nD N.length (if x.atom≥0 then meet N k (meet N k order x.yes) x.no else order)∧∀ y∈(if x.atom≥0 then meet N k (meet N k order x.yes) x.no else order),y∈order∨(a:Int)<y:=by
        split
        · rename_i a6
          obtain ⟨d1,d2,d3,d4⟩:=eI a x ab a6;obtain ⟨y,ay⟩:∃ y:Nat,x.yes=y:=⟨x.yes.toNat,by omega⟩;obtain ⟨z,bG⟩:∃ z:Nat,x.no=z:=⟨x.no.toNat,by omega⟩;rw [ay,bG];obtain ⟨qE,bR⟩:=sV eI k y af af order ai;obtain ⟨fo,I8⟩:=sV eI k z af af _ qE;refine ⟨fo,fun u hu=>?_⟩;rcases I8 u hu with h|h
          · rcases bR u h with h|h
            · exact .inl h
            · exact .inr af
          · exact .inr af
        · exact ⟨ai,fun y h => .inl h⟩
      obtain ⟨cE,dq⟩:=key;refine ⟨cE.snoc U (fun hm=>?_),fun y ay=>?_⟩
      · rcases dq _ hm with h|h
        · rw [ah8.2 h] at aB;cases aB
        · omega
      · rcases ae'.1 ay with ay|ay
        · exact (dq y ay).imp id (fun h=>by omega)
        · rw [H1.1 ay];exact .inr (Int.le_refl _)
def pa (N:List bP) (an jM iC:Nat):ag := .func 110 [] [.bw [.map an] 0,.bw [.aA 4 (N.map eN) .bb] 0,.ptr jM 0,.ptr iC 0]
def sW (N:List bP) (an jM iC:Nat) (num:List (ag×ag)) (order:List Int) (own:bN):a':=
 [(.own jM,.box 163 [pa N an jM iC]),(.own iC,.box 23 [.aA 1 (order.map a8) own]),(own,.row 3 1 order.length),(.own an,.map num)]
theorem YK (N:List bP) (aU:N.length≤1000) (eI:Down N) (an jM iC:Nat):∀ (k a:Nat),a<N.length→N.length-a≤k→∀ (num:List (ag×ag)) (order path:List Int) (own:bN),qR num order path→nD N.length order→(∀ x∈path,x<a) →
    dA d0 (pa N an jM iC) [.int .i64 (a:Int)] (sW N an jM iC num order own) (fun o K=>∃ vA cM,qR vA (meet N k order a) path∧o = .ret (.cw [])∧K=sW N an jM iC vA (meet N k order a) cM):=by
  have lD:bC=1099511627776:=rfl;intro k
  induction k with
  | zero=>intro a U ad;omega
  | succ k a1=>
    intro a a6 aE num order path own oV ug I9;have hlen:=ug.len;obtain ⟨x,ab,bL⟩:=b8 (f:=eN) a6;have mg:=B3 (k:=k) (order:=order) ab;have kl:=oV.get a;refine dA.fx (first:=[]) (cap:=[.bw [.map an] 0,.bw [.aA 4 (N.map eN) .bb] 0,.ptr jM 0,.ptr iC 0]) ?_;refine bA.bh ah Tryz.func110 C C fun s I=>?_
    unfold sW pa at *;refine jE ?_;cases aB:order.contains (a:Int) with
    | true=>
      rw [aB,g6 C] at kl;rw [aB,g6 C] at mg;rw [mg];refine aa.jD ah I C C C C C C C C C C aW C kl C ?_;refine ed ?_;exact Fin.bs I C aJ (aG.all _) ⟨num,own,oV,rfl,rfl⟩
    | false=>
    have aF:path.contains (a:Int)=false:=by
      cases h:path.contains (a:Int) with
      | false=>rfl
      | true=>have:=I9 _ (ah8.1 h);omega
    rw [aB,f0 ba,aF,f0 ba] at kl;rw [aB,f0 ba] at mg;obtain ⟨OV,tx,OW⟩:=oV.enter aB;refine aa.jD ah I C C C C C C C C C C aW C kl C ?_;refine bl ?_;refine aa.nh ah I C C (.inl C) C C C C C C aW C tx (fun I=>?_);unfold eN ha at bL;refine dG ?_;refine ae.wS (σ:=List (ag×ag)×bN) (fun _=>[(0,.int .i64 (a:Int)),(1,.bw [.map an] 0),(2,.bw [.aA 4 (N.map eN) .bb] 0),(3,.ptr jM 0),(4,.ptr iC 0)]) (fun z=>sW N an jM iC z.1 (if x.atom≥0 then meet N k (meet N k order x.yes) x.no else order) z.2) (fun z=>qR z.1 (if x.atom≥0 then meet N k (meet N k order x.yes) x.no else order) ((a:Int)::path)) ?_ ?_
    · refine ae.cond C (fun cX=>?_) (fun cX=>?_)
      · have cX:x.atom≥0:=by simpa using cX
        obtain ⟨d1,d2,d3,d4⟩:=eI a x ab cX;obtain ⟨y,ay⟩:∃ y:Nat,x.yes=y:=⟨x.yes.toNat,by omega⟩;obtain ⟨z,bG⟩:∃ z:Nat,x.no=z:=⟨x.no.toNat,by omega⟩;rw [g6 cX];simp only [ay,bG] at bL ⊢;have nS:=sV eI k y af af order ug
        have i1:=a1 y af af OV order ((a:Int)::path) own OW ug (fun p aF=>by
          rcases af2.1 aF with rfl|aF
          · omega
          · have:=I9 p aF;omega)
        have i2:=fun EO pQ h=>a1 z af af EO (meet N k order y) ((a:Int)::path) pQ h nS.1 (fun p aF=>by
          rcases af2.1 aF with rfl|aF
          · omega
          · have:=I9 p aF;omega)
        refine tB I ?_;intro I;refine aK.gM rfl rfl rfl rfl rfl rfl rfl i1 I aX ?_ (fun _ _ h _=>by obtain ⟨_,_,_,h,_⟩:=h;cases h);rintro _ _ ⟨EO,pQ,zr,⟨⟩,rfl⟩ I;simp only [d8,aa'] at I ⊢;refine tB I ?_;intro I;refine aK.gM rfl rfl rfl rfl rfl rfl rfl (i2 EO pQ zr) I aX ?_ (fun _ _ h _=>by obtain ⟨_,_,_,h,_⟩:=h;cases h);rintro _ _ ⟨EP,qt,uU,⟨⟩,rfl⟩ I;simp only [d8,aa'] at I ⊢;skip;exact k8.mk (EP,qt) I uU (cl C) (by simp only [sW,pa];exact aX)
      · have cX:¬ x.atom≥0:=by simpa using cX
        rw [f0 cX];refine gx ?_;exact k8.mk (OV,own) I OW (cl C) (by simp only [sW,pa];exact aX)
    rintro ⟨EO,pQ⟩ zr I;rw [mg];simp only at zr I ⊢;generalize qi:(if x.atom≥0 then meet N k (meet N k order x.yes) x.no else order)=order2 at *;have vj:nD N.length order2∧∀ y∈order2,y∈order∨(a:Int)<y:=by
      rw [← qi];split
      · rename_i cX
        obtain ⟨d1,d2,d3,d4⟩:=eI a x ab cX;obtain ⟨y,ay⟩:∃ y:Nat,x.yes=y:=⟨x.yes.toNat,by omega⟩;obtain ⟨z,bG⟩:∃ z:Nat,x.no=z:=⟨x.no.toNat,by omega⟩;rw [ay,bG];obtain ⟨qE,bR⟩:=sV eI k y af af order ug;obtain ⟨fo,I8⟩:=sV eI k z af af _ qE;refine ⟨fo,fun u hu=>?_⟩;rcases I8 u hu with h|h
        · rcases bR u h with h|h
          · exact .inl h
          · exact .inr af
        · exact .inr af
      · exact ⟨ug,fun y h => .inl h⟩
    have sK:order2.contains (a:Int)=false:=by
      cases h:order2.contains (a:Int) with
      | false=>rfl
      | true=>
        rcases vj.2 _ (ah8.1 h) with h|h
        · rw [ah8.2 h] at aB;cases aB
        · omega
    have eT:=vj.1.len;obtain ⟨EP,uU,YL⟩:=zr.leave sK;unfold sW pa at I ⊢;refine cC I ?_;intro I;refine aa.nh ah I C C (.inl C) C C C C C C aW C (by rw [d9];exact uU) (fun I=>?_);refine cC I ?_;intro I;refine aa.fO ah I C C C C C C C di C C C C C C C C aW gY jS af (fun bR I=>?_);refine cC I ?_;intro I;exact Fin.bs (K:=sW N an jM iC EP (order2++[(a:Int)]) (.own bR)) I C aJ (by simp only [sW,pa,ad',ae3,ah1,f6,g9,af6];exact aX) ⟨EP,.own bR,YL,rfl,rfl⟩
def vB (xs:List Int):Nat→List (Nat×Int)
 | 0=>[]
 | m+1=>(m,xs.getD m 0)::vB xs m
def I' (p:Nat×Int):ag := .int .i64 (p.1:Int)
def Ja (p:Nat×Int):ag := .int .i64 p.2
theorem OX (xs:List Int):∀ m,m≤xs.length→(vB xs m).map (·.2)=(xs.take m).reverse
  | 0,_=>by rw [vB,al4];rfl
  | m+1,h=>by
    obtain ⟨x,ab⟩:∃ x,xs[m]? = some x:=⟨_,f7 af⟩;rw [vB,ae3,OX xs m af,am2,ab,az',d7,ab];rfl
theorem YM (xs:List Int) (aC:xs.length<bC):HJ d0 152 [] [.bw [.aA 1 (xs.map a8) .bb] 0] [] I' Ja (fun _=>True) (vB xs xs.length):=by
 have lD:bC=1099511627776:=rfl;intro l Go fJ fQ pF K bk;refine bA.bh ah Tryz.func152 C C fun s I=>?_
 rw [d8] at I ⊢;have iK:((xs.map a8).length:Int)=(xs.length:Int):=by rw [d9]
 have hw:t7 .i64 ((xs.length:Int)-1)=(xs.length:Int)-1:=dz af af;refine fP ?_;refine ae.b5 [0,1] C I (σ:=Nat×a') (fun q=>[(3,.int .i64 ((q.1:Int)-1))]) (fun q=>q.2) (fun q=>q.1≤xs.length∧Go (vB xs q.1) q.2) (fun q=>q.1) (xs.length,K) ⟨g8 _,bk⟩ (by repeat (first|exact trivial|refine ⟨⟨_,rfl,aJ⟩,?_⟩|refine ⟨⟨_,rfl,aQ.of_eq (by (rw [iK,hw]))⟩,?_⟩)) (aG.all _) ?_;rintro ⟨iw,iO⟩ ⟨hm,en⟩ I;simp only at hm en I ⊢;cases iw with
 | zero=>
  refine bl ?_;exact Fin.bs I C aJ (aG.all _) (.inl ⟨rfl,.inl en⟩)
 | succ m=>
 have pz:(((m+1:Nat):Int)-1)=(m:Int):=by omega
 simp only [pz];obtain ⟨x,ab,bL⟩:=b8 (f:=a8) (show m<xs.length by omega);rw [vB,show xs.getD m 0=x by rw [d7,ab];rfl] at en;have ay:=pF _ _ iO en;unfold I' Ja at ay;unfold a8 at bL;refine bl ?_;refine aa.gM C C C C C C ay I (aG.all _) ?_ ?_
 ·rintro x aO (⟨⟨⟩,-,h⟩|⟨⟨⟩,h⟩|⟨_,⟨⟩,_⟩) I
  all_goals rw [d6] at I ⊢
  ·refine bl ?_
   exact bn.mk (m,aO) I ⟨by omega,h⟩ (by repeat (first|exact trivial|refine ⟨⟨_,rfl,aJ⟩,?_⟩|refine ⟨⟨_,rfl,aQ.of_eq xc⟩,?_⟩)) (aG.all _) vy
  ·refine bl ?_
   exact Fin.bs I C aJ (aG.all _) (.inl ⟨rfl,.inr h⟩)
 ·rintro x aO (⟨h,_⟩|⟨h,_⟩|⟨v,⟨⟩,h⟩) I
  ·cases h
  ·cases h
  rw [d6] at I ⊢;exact Fin.fi I aJ (aG.all _) (.inr ⟨_,rfl,h⟩)
theorem YN (xs:List Int):aT d0 111 [bd xs] (.func 152 [] [.bw [.aA 1 (xs.map a8) .bb] 0]):=by
 have an:=bD;refine aT.bh ah Tryz.func111 C C fun s I=>?_
 unfold bd;refine gX ?_;exact bB I
section
variable {J:ao→Prop} {P:Program} {Γ:cA} {N:Nat} {l:List Oper} {Q:b9→Env→ao→Prop} {env:Env} {s:ao} {m:Nat}
theorem bg.two {i j:Nat} {zs zt:Oper} {Jb Jc:Nat} {Jd Je:ag} (cO:J s) (aD:eJ l.toArray m (idxs 0 l)=[i,j]) (eU:af0 i j=false)
  (aR:l.toArray[i]? = some zs) (Jf:zs.dst=some Jb) (YO:t8 Jb N=true) (ER:guardOf l.toArray (iH env (looks l.toArray zs)) zs=some true) (YP:aZ P N zs (iH env (looks l.toArray zs)) s (fun x aj=>x=Jd∧aj=s) (fun _ _=>False))
  (aL:l.toArray[j]? = some zt) (p2:zt.dst=some Jc) (YQ:t8 Jc N=true) (YR:guardOf l.toArray (iH env (looks l.toArray zt)) zt=some true) (YS:aZ P N zt (iH env (looks l.toArray zt)) s (fun x aj=>x=Je∧aj=s) (fun _ _=>False))
  (tv:bg J P Γ N l.toArray Q (bZ (m|||2^i)) ((Jb,Jd)::env) s) (YT:bg J P Γ N l.toArray Q (bZ (m|||2^j)) ((Jc,Je)::env) s):bg J P Γ N l.toArray Q (bZ m) env s:=by
 have cJ:i≠j:=fun e=>by subst e;rw [show af0 i i=true from Nat.beq_refl i] at eU;cases eU
 have fy:∀ k,hq l.toArray (bZ m) k→k=i∨k=j:=fun k aE=>by
  have:=AA aE (l:=idxs 0 l) (by rw [yE,List.mem_range'_1];have:=aE.1;simp at this;omega);rw [aD] at this;simpa using this
 have jm:hq l.toArray (bZ m) i:=by
  have fH:i∈eJ l.toArray m (idxs 0 l):=by rw [aD];exact i6 ..
  have:∀ is,i∈eJ l.toArray m is→iI l.toArray m i=true:=by
   intro is
   induction is with
   | nil=>intro h;cases h
   | cons j is a1=>
    intro h;simp only [eJ] at h;split at h
    ·rename_i an
     rcases af2.1 h with rfl|h
     ·exact an
     ·exact a1 h
    ·exact a1 h
  exact tw.1 (this _ fH)
 refine bg.split (fun k x aj=>(k=i→x=Jd)∧(k=j→x=Je)∧aj=s) (fun _ _ _=>False) ⟨i,jm.1,jm.2.1⟩ (fun k o' aE cD=>?_) (fun k o' aE cD x aj bk => .inl (by rw [bk.2.2];exact cO)) (fun k o' c9 aE cD cp x aj bk=>?_) (fun k o' aE cD cp x aj bk=>?_) (fun k o' aE cD x aj hg=>hg.elim)
 ·rcases fy k aE with rfl|rfl
  ·rw [aR] at cD;cases cD
   exact ⟨ER,YP.mono (fun x aj h=>⟨fun _=>h.1,fun e=>absurd e cJ,h.2⟩) (fun _ _ h=>h),fun c9 cp=>by rw [Jf] at cp;cases cp;simpa [Nat.blt_eq] using YO⟩
  ·rw [aL] at cD;cases cD
   exact ⟨YR,YS.mono (fun x aj h=>⟨fun e=>absurd e.symm cJ,fun _=>h.1,h.2⟩) (fun _ _ h=>h),fun c9 cp=>by rw [p2] at cp;cases cp;simpa [Nat.blt_eq] using YQ⟩
 ·obtain ⟨U,ad,rfl⟩:=bk
  rcases fy k aE with rfl|rfl
  ·rw [aR] at cD;cases cD
   rw [Jf] at cp;cases cp;rw [pA,U C];exact tv
  ·rw [aL] at cD;cases cD
   rw [p2] at cp;cases cp;rw [pA,ad C];exact YT
 ·rcases fy k aE with rfl|rfl
  ·rw [aR] at cD;cases cD
   rw [Jf] at cp;cases cp
  ·rw [aL] at cD;cases cD
   rw [p2] at cp;cases cp
theorem bg.Jg {L R:a'} (i:Nat) (aP:bQ P Γ) (I:Ok s L) (cO:J (aS s L)) {o:Oper} {d:Nat} {t T:TypeId} {x:Operand} {dP:bO} {b off:Nat} {cs:List ag} {v:ag} (aD:eJ l.toArray m (idxs 0 l)=[i]) (ai:l.toArray[i]? = some o) (ax:o.dst=some d) (aU:t8 d N=true)
  (av:c6 l env o) (b3:o.op = .load t x) (aN:Γ.get? t=some dP) (ab:aM (b4 l env o) x=some (.ptr b off)) (ar:bo L (.own b) (.box T cs) R) (aw:hV dP cs off=some v)
  (h:bg J P Γ N l.toArray Q (bZ (m|||2^i)) ((d,v)::env) (aS s L)):bg J P Γ N l.toArray Q (bZ m) env (aS s L):=
 bg.one aD ai ax aU av (aZ.ey aP I b3 aN ab ar aw (X:=fun _ _=>False)) (fun x aj ⟨_,ad⟩ => .inl (by rw [ad];exact cO)) (fun x aj ⟨U,ad⟩=>by subst U;subst ad;exact h) (fun _ _ h=>h.elim)
theorem bg.OY (i:Nat) (aP:bQ P Γ) (cO:J s) {o:Oper} {d:Nat} {t dW e5:TypeId} {x y:Operand} {ok:Bool} {it gL aH:bO} {b:Nat} {es:List (ag×ag)} {k z:ag} {r:Option ag} (aD:iI l.toArray m i=true) (ai:l.toArray[i]? = some o) (ax:o.dst=some d) (aU:t8 d N=true)
  (av:c6 l env o) (b3:o.op = .lookup t x y ok) (aN:Γ.get? t=some it) (bt:it.bF = .map dW e5) (jy:Γ.get? dW=some gL) (bJ:Γ.get? e5=some aH) (ab:aM (b4 l env o) x=some (.map b)) (ay:aM (b4 l env o) y=some k)
  (ar:∀ s,J s→s b=some (.map es)) (a7:kk gL.bF k=true) (m2:jj es k=some r) (bG:hH aH.zero=some z)
  (h:bg J P Γ N l.toArray Q (bZ (m|||2^i)) ((d,l0 ok z r)::env) s):bg J P Γ N l.toArray Q (bZ m) env s:=
 bg.si cO aD ai ax aU av (fun s hL=>aZ.lookup aP b3 aN bt jy bJ ab ay (.inl ⟨b,rfl,ar s hL⟩) a7 m2 bG) h
end
theorem OZ {w:World} {p:bV}:∀ {yss:List (List ag)} {us:List Value},bH w p us (yss.map ag.agg)→bH w p (flat us) yss.flatten
  | [],us,h=>by cases h;exact .nil
  | c::r,us,h=>by
    cases h with
    | cons u _ wo _ hu aN=>
    cases hu with
    | agg cs _ aB=>
    have:=OZ aN;rw [List.flatten_cons,show flat (Value.agg cs::wo)=cs.toList++flat wo by simp [flat,Value.cells]];exact bH.append aB this
section
variable {P:Program} {Γ:cA} {N:Nat} {ops:Array Oper} {Q:b9→Env→ao→Prop} {env:Env} {s:ao} {l:List Oper} {o:Oper} {d:Nat} {L R:a'}
theorem YU (aP:bQ P Γ) {w:World} {p:bV} {S:ao} (cf:dx w p S) {t bI e ty:TypeId} {it cz aH:bO} {bY sz:Nat} {olds:List Value} {xs:List ag} {yss:List (List ag)} {dr:bN} {base:Option Addr} {n cap:Nat} {rq:Value}
  (aN:Γ.get? t=some it) (bt:it.bF = .aA e) (c0:Γ.get? bI=some cz) (dy:∀ k,cz.bF ≠ .int k) (bJ:Γ.get? e=some aH) (U:aH.size=sz) (dS:af0 aH.zero.cells.size aH.size=true)
  (aD:bH w p olds xs) (az:n*sz=xs.length) (k4:(Builtin.firstCells sz n (.slice base n cap)).run P w.drew = .ok olds.toArray w.drew) (ay:Rel w p rq (.aA bY (yss.map ag.agg) dr)) (de:bY=sz) (hK:∀ c∈yss,c.length=sz)
  (au:cap<n+yss.length) (an:(n+yss.length)*aH.bytes≤140737488355328) (ek:n+yss.length≤9223372036854775807) :
  ∃ aY cg cs' w',(Builtin.append_ #[t,bI] ty #[.slice base n cap,rq]).run P w = .ok (.slice (some ⟨aY,0,none⟩) (n+yss.length) cg) w'∧S aY=none∧dg w p w' p∧Kept S (S.set aY (.box e cs')) w p w' p∧dx w' p (S.set aY (.box e cs')) ∧
   cs'.length=cg*sz∧n+yss.length≤cg∧cs'.take ((n+yss.length)*sz)=xs++yss.flatten:=by
 obtain ⟨info,d,g1,g2,g3,-⟩:=aP.parts aN;obtain ⟨mZ,c9,ea,dj,dQ,-⟩:=aP.parts c0;obtain ⟨j1,kC,cE,dq,fl,eK,j2,jz⟩:=aP.parts bJ;have ax:d = .slice e:=by rw [bt] at g3;cases d<;>simp [eB] at g3;rw [g3]
 subst ax;have cp:∀ k,c9 ≠ .int k:=fun k e'=>by subst e';exact dy k dQ.symm
 obtain ⟨us,iv,qb,j3,kn,tm,tn,tp⟩:=q9 ay (.inr de);rw [d9] at j3 kn;subst de;have ud:bH w p (flat us) yss.flatten:=OZ iv;have m8:=ud.length;have fr:=growslice_fits (need:=n+yss.length) (old:=cap) (bytes:=aH.bytes) au an;have cS:=An (ty:=ty) w g2 dj cp cE jz (base:=base) (sLen:=n) (sCap:=cap) (m:=yss.length) (olds:=olds) (news:=flat us) (j3 P)
  (by rw [eK,U];exact k4) (by rw [eK,U];exact kn P w.drew (fun _ _ _=>rfl)) au af (by rw [j2];exact fr)
 have nP:n+yss.length≤grownCap w (n+yss.length) cap e:=by simp [grownCap,Question.cut]
 have fZ:olds.length=n*bY:=by rw [aD.length,az]
 have pq:=ae0 dS;generalize tl:(Builtin.zeroCells aH.zero.cells (grownCap w (n+yss.length) cap e-(n+yss.length))).toList=aW at cS;have m9:aW.length=(grownCap w (n+yss.length) cap e-(n+yss.length))*bY:=by
  rw [← tl,OA,pq,U]
 generalize grownCap w (n+yss.length) cap e=G at cS nP m9;have wW:=yp cf
 obtain ⟨ar,hle,aE,k7⟩:=r9 wW (.cells (olds++flat us++aW).toArray e (0,0)) (.box e (xs++yss.flatten++aW.map fun _ => .any)) (fun w' iS aw fC=>⟨_,iS,by
  refine bH.append (bH.append (fC _ _ (show bH w.drew p olds xs from aD.mono k3)) (fC _ _ (ud.mono k3))) (bH.AN aW),fun o aF=>absurd (cf.lt _ _ aF) (by show ¬ w.heap.size<w.heap.size;omega)⟩)
 rw [show w.drew.heap.size=w.heap.size from rfl] at ar aE k7;have hm:(n+yss.length)*bY=n*bY+yss.length*bY:=ak7 ..;have kA:=Yo hK;refine ⟨w.heap.size,G,xs++yss.flatten++aW.map (fun _=>ag.any),_,cS,ar,k3.trans hle,(v' (w:=w) (p:=p)).trans (k3 (w:=w) (p:=p)).size aE,k7,?_,nP,?_⟩
 ·simp only [f6,d9,m9]
  rw [← az,kA,← hm,← ak7];congr 1;omega
 ·rw [ai7 (by rw [f6,kA];omega),ag9 (by rw [f6,kA];omega)]
theorem aZ.ES (aP:bQ P Γ) (I:Ok s L) {t bI e:TypeId} {x y:Operand} {it cz aH:bO} {dX bY sz:Nat} {yss:List (List ag)} {dr:bN}
    (ai:o.op = .call { callee := .builtin .append,args := #[x,y],argTypes := #[t,bI] }) (aN:Γ.get? t=some it) (bt:it.bF = .aA e) (c0:Γ.get? bI=some cz) (dy:∀ k,cz.bF ≠ .int k)
    (bJ:Γ.get? e=some aH) (U:aH.size=sz) (dS:af0 aH.zero.cells.size aH.size=true) (ab:aM env x=some (.aA dX [] .clip)) (ay:aM env y=some (.aA bY (yss.map ag.agg) dr)) (de:bY=sz) (hK:∀ c∈yss,c.length=sz) (cJ:1≤yss.length) (an:yss.length*aH.bytes≤140737488355328) (ek:yss.length≤9223372036854775807)
    {X:ag→ao→Prop}:aZ P N o env (aS s L) (fun r aj=>IT s L e sz yss.length yss.flatten r aj) X:=by
  refine aZ.kB iW fun ro B a w p aI=>?_
  have gp:=aI.aM ab;have fs:=aI.aM ay;have eQ:=fun val w'=>u0 (P:=P) (a:=a) (val:=val) (w:=w) (w':=w') ai
  generalize ep:a.eval x=dR at gp eQ;generalize e9:a.eval y=fW at fs eQ;have tF:∃ base,dR = .slice base 0 0:=by
    cases gp with
    | h4=>exact ⟨_,rfl⟩
    | iE a _ _ h=>exact ⟨_,rfl⟩
    | aA g off n cap _ vs _ _ az aC aB aD ar hm aE cy ai=>
      have U:n=0:=aC;have ad:=cy C;subst U;subst ad;exact ⟨_,rfl⟩
  obtain ⟨base,rfl⟩:=tF
  obtain ⟨aY,cg,cs',w',e8,fB,gq,jl,mA,mB,nk,nm⟩:=YU (ty:=o.type) aP aI.wf (base:=base) (n:=0) (cap:=0) (olds:=[]) (xs:=[]) aN bt c0 dy bJ U dS .nil ba (by
    cases base with
    | none=>
      have:=run_firstCells_none (P:=P) w.drew sz 0 0 0
      simpa using this
    | some a=>exact run_firstCells_some w.drew sz 0 a _ _ [] ba ba) fs de hK af (by simpa using an) af
  rw [af5] at e8 nk nm;exact ⟨_,w',_,p,_,eQ _ _ e8,gq,jl,mA,⟨aY,cg,cs',rfl,rfl,⟨fB,I⟩,mB,nk,by simpa using nm⟩,.hG _⟩
theorem aa.ES (aP:bQ P Γ) (I:Ok s L) {t bI e:TypeId} {x y:Operand} {it cz aH:bO} {dX bY sz:Nat} {yss:List (List ag)} {dr:bN} (av:guardOf ops env o=some true) (ax:o.dst=some d) (aU:t8 d N=true)
  (ai:o.op = .call { callee := .builtin .append,args := #[x,y],argTypes := #[t,bI] }) (aN:Γ.get? t=some it) (bt:it.bF = .aA e) (c0:Γ.get? bI=some cz) (dy:∀ k,cz.bF ≠ .int k)
  (bJ:Γ.get? e=some aH) (U:aH.size=sz) (dS:af0 aH.zero.cells.size aH.size=true) (ab:aM env x=some (.aA dX [] .clip)) (ay:aM env y=some (.aA bY (yss.map ag.agg) dr)) (de:bY=sz) (hK:∀ c∈yss,c.length=sz) (cJ:1≤yss.length) (an:yss.length*aH.bytes≤140737488355328) (ek:yss.length≤9223372036854775807)
  (h:∀ aY cg cs',cs'.length=cg*sz→yss.length≤cg→cs'.take (yss.length*sz)=yss.flatten→Ok s ((.own aY,.box e cs')::L)→aa P N ops l Q ((d,ee aY yss.length cg)::env) (aS s ((.own aY,.box e cs')::L))):aa P N ops (o::l) Q env (aS s L):=by
 refine aa.op av ax aU (aZ.ES aP I ai aN bt c0 dy bJ U dS ab ay de hK cJ an ek (X:=fun _ _=>False)) ?_ (fun _ _ h=>h.elim);rintro r aj ⟨aY,cg,cs',rfl,rfl,ad,al,bf,bE⟩;exact h aY cg cs' al bf bE ad
end
theorem xQ (g:List bP):g.map eN=(g.map ha).map ag.agg:=by rw [au1];rfl
theorem YV (g:List bP) (own:bN) (U:1≤g.length) (aC:g.length≤1000):bA d0 109 [.aA 4 (g.map eN) own] [] (fun o K=>∃ b cap cs,qO (some (b,cap,cs)) g∧o = .ret (ee b g.length cap)∧K=[(.own b,.box 69 cs)]):=by
 refine bA.bh ah Tryz.func109 C C fun s I=>?_
 refine dt ?_;refine aa.op C C C (aZ.HE ah C C C C (X:=fun _ _=>False)) ?_ (fun _ _ h=>False.elim h);rintro r aj ⟨rfl,⟨rfl,az⟩|rfl⟩
 ·have:g=[]:=List.map_eq_nil_iff.1 az
  rw [this] at U;simp at U
 ·refine bl ?_
  refine aa.ES ah I (yss:=g.map ha) C C C C C C C di C C C C (by rw [← xQ];rfl) C (jY g) wU (by rw [d9];show _*48≤_;omega) pV (fun cT eA ew cu cL dT I=>?_);refine er ?_;exact Fin.bs I C (aQ.of_eq B2) aX ⟨cT,eA,ew,⟨cu,by simpa using cL,by simpa using dT⟩,rfl,rfl⟩
theorem O0 (g:List bP):(fF g g.length).map a8=t6 g.length (.int .i64 0):=by
 unfold fF;rw [ax7,cd,d6,au0];rfl
theorem O1 (g:List bP):jf g g.length=g:=by
 unfold jf;rw [ax7,cd,d6,ae5]
def rZ (N:List bP) (an iC jM xR db:Nat) (order:List Int) (num:List (ag×ag)) (one:List Int) (own:bN) (bu:xN) (done:List bP):a':=[(.own xR,.box 28 [gm bu done]),(.own iC,.box 23 [.aA 1 (order.map a8) .bb]),(.own jM,.box 163 [pa N an jM iC]),(own,.row 3 1 order.length),(.own an,.map num),(.own db,.box 3 (one.map a8))]++fU bu
def jg (N:List bP) (order:List Int) (eX:Int):bP:=let x:=N.getD eX.toNat default
 if x.atom≥0 then { x with no:=(order.length:Int)-1-placeOf order x.no,yes:=(order.length:Int)-1-placeOf order x.yes } else x
def Jh (iC an r0:Nat) (order:List Int) (num:List (ag×ag)) (x:bP) (aj:ao):Prop:=aj iC=some (.box 23 [.aA 1 (order.map a8) .bb])∧aj an=some (.map num)∧∃ v,aj r0=some (.box 69 [.int .i64 x.atom,v,.int .i64 x.yes,.aA 1 (x.ms.map a8) .bb])
def pb (g:List bP) (o0 lQ db cap m:Nat) (cs:List ag):a':=[(.own o0,.box 28 [ee lQ g.length cap]),(.own lQ,.box 69 cs),(.own db,.box 3 ((fF g m).map a8))]
theorem O2 (g:List bP) (av:qQ g):bA d0 63 [.aA 4 (g.map eN) .bb] [] (fun o K=>o = .ret (.aA 4 ((small g).map eN) .bb)∧K=[]):=by
  have lD:bC=1099511627776:=rfl;have n6:=av.pos;have kU:=av.len;have cy:=YV g .bb av.pos av.len;refine bA.bh ah Tryz.func63 C C fun s I=>?_
  refine b' ?_;refine aa.rC ah I (g.map eN).length C C C C C C C C C C C C (by rw [d9];show _*8≤_;omega) pV (fun db I=>?_);refine fI ?_;refine aa.bX rfl rfl rfl rfl rfl cy I .nil ?_ (fun _ _ ⟨_,_,_,_,h,_⟩ _=>by cases h);rintro _ _ ⟨lQ,cap,ET,Ji,⟨⟩,rfl⟩ I;simp only [d9,aa',d8] at I ⊢
  repeat (first|(refine T9 I ?_;clear I;intro I)|refine aa.eb ah I rfl rfl rfl rfl rfl rfl rfl (fun cH I=>?_))
  obtain ⟨o0,rfl⟩:∃ x,x=cH:=⟨_,rfl⟩;have ji:=O0 g;have iK:((g.map eN).length:Int)=(g.length:Int):=by rw [d9]
  have hw:t7 .i64 ((g.length:Int)-1)=(g.length:Int)-1:=dz af af;refine ae.b5 [0,3,4] C I (σ:=Nat×List ag) (fun q=>[(5,.int .i64 ((q.1:Int)-1))]) (fun q=>pb g o0 lQ db cap q.1 q.2) (fun q=>q.1≤g.length∧qO (some (lQ,cap,q.2)) (jf g q.1)) (fun q=>q.1) (g.length,ET) ⟨g8 _,by rw [O1];exact Ji⟩ (by repeat (first|exact trivial|refine ⟨⟨_,rfl,aJ⟩,?_⟩|refine ⟨⟨_,rfl,aQ.of_eq (by (rw [iK,hw]))⟩,?_⟩)) (by unfold pb;simp only [ji];exact aX) ?_;rintro ⟨iw,cs⟩ ⟨hm,gB⟩ I;simp only at hm gB I ⊢;cases iw with
  | zero=>
    have YW:jf g 0=(cd 0 g).2:=by unfold jf;simp
    have Jj:fF g 0=(cd 0 g).1:=by unfold fF;simp
    obtain ⟨zu,kR⟩:=oh g 0;have lY:=I2 (n:=g.length) g 0 af (fun k x ab a6=>by have:=av.eX k x ab a6;rw [af5];exact this);have sX:Down (cd 0 g).2:=fun i x ab a6=>by
      have sI:=(ae2.1 ab).1;have:=(lY i af).2.2.2;rw [d7,ab] at this;have:=this a6;simp only [af9] at this;omega
    obtain ⟨B4,O3⟩:∃ B4,(cd 0 g).1[0]? = some B4:=⟨_,f7 af⟩;have O4:(cd 0 g).1.getD 0 0=B4:=by rw [d7,O3];rfl
    have Jk:=(lY 0 af).1;rw [O4] at Jk;obtain ⟨a0,rfl⟩:∃ a:Nat,B4=a:=⟨B4.toNat,by omega⟩;have h3:small g=(meet (cd 0 g).2 (g.length+1) [] a0).reverse.map fun eX=>
        let x:=(cd 0 g).2.getD eX.toNat default
        if x.atom≥0 then { x with no:=((meet (cd 0 g).2 (g.length+1) [] a0).length:Int)-1-placeOf (meet (cd 0 g).2 (g.length+1) [] a0) x.no,yes:=((meet (cd 0 g).2 (g.length+1) [] a0).length:Int)-1-placeOf (meet (cd 0 g).2 (g.length+1) [] a0) x.yes } else x:=by
      unfold small;simp only [O4]
    have iV:∀ x∈(cd 0 g).2,x.ms.length≤16:=fun x ab=>by
      obtain ⟨k,aE⟩:=ai0 ab;obtain ⟨w,lN,xS⟩:=B1 g 0 k x aE;rw [xS];exact av.ms w lN
    have xT:nD (cd 0 g).2.length []:=⟨au3,fun _ h=>by cases h⟩;have YX:=YK (cd 0 g).2 af sX;have qS:=(sV sX (g.length+1) a0 af af [] xT).1;have YY:((cd 0 g).1.map a8)[0*1]? = some (.int .i64 ((a0:Nat):Int)):=by rw [Nat.zero_mul,ae4,O3];rfl
    unfold pb at I ⊢;rw [Jj] at I ⊢;rw [YW] at gB;generalize (cd 0 g).1=one at *;generalize (cd 0 g).2=N at *;obtain ⟨tj,q7,O5⟩:=gB;rw [kR] at q7 O5;refine ae.BV I 0 .here .here C O5 (by rw [d9,kR]) (jY _) q7 af (fun I=>?_);simp only [ar',← xQ] at I ⊢;refine ae.l5 I 4 o0 C .here (fun I=>?_);refine c2 ?_;refine aa.sj I C C C C (fun an I=>?_);refine aa.Dz ah C C C C C C C (fun _=>rfl) C C (fun _=>rfl) C C C C ?_
    repeat (first|(refine T' I ?_;clear I;intro I)|refine aa.eb ah I rfl rfl rfl rfl rfl rfl rfl (fun cH I=>?_))
    rename_i iC _;obtain ⟨jM,rfl⟩:∃ x,x=cH:=⟨_,rfl⟩;refine ae.h0 I 3 1 0 fun I=>?_
    refine ae.qM I [.aA 1 [] .nil] (kb:=iC) aW (.one (aQ.nil gN)) (fun I=>?_);have c3:=YX an jM iC (g.length+1) a0 af af [] [] [] .nil qR.empty xT (fun _ h=>by cases h);unfold sW pa at c3;refine tB I ?_;intro I;refine aK.ej ah 0 C C C C C C C C C C af ?_;refine aK.jd ah I C C C C C C aW C YY ?_;skip;refine aK.gM rfl rfl rfl rfl rfl rfl rfl c3 I aX ?_ (fun _ _ h _=>by obtain ⟨_,_,_,h,_⟩:=h;cases h);rintro _ _ ⟨num,own,oV,⟨⟩,rfl⟩ I;simp only [d8,aa'] at I ⊢;generalize meet N (g.length+1) [] a0=order at *;have hlen:=qS.len;refine tC ?_;refine ae.qM I [.aA 1 (order.map a8) .bb] (kb:=iC) aW (.one aQ.bb) (fun I=>?_);have YZ:=YN order;unfold bd at YZ
    repeat (first|(refine Ua I ?_;clear I;intro I)|refine aa.eb ah I rfl rfl rfl rfl rfl rfl rfl (fun cH I=>?_)|(refine qo ?_))
    obtain ⟨xR,rfl⟩:∃ x,x=cH:=⟨_,rfl⟩
    rw [show (fun eX:Int=>let x:=N.getD eX.toNat default
        if x.atom≥0 then ({ x with no:=(order.length:Int)-1-placeOf order x.no,yes:=(order.length:Int)-1-placeOf order x.yes }:bP) else x)=jg N order from rfl] at h3
    have wq:=OX order order.length (g8 _);rw [ae5] at wq;have kh:(vB order order.length).length=order.length:=by
      have:=ae7 List.length wq;rwa [d9,at1] at this
    have eT:∀ z:Int,l0 false (.int .i64 0) (if order.contains z then some (.int .i64 (placeOf order z)) else if ([]:List Int).contains z then some (.int .i64 (-1)) else none) = .int .i64 (placeOf order z):=fun z=>by
      cases aB:order.contains z with
      | true=>rfl
      | false=>rw [YJ aB];rfl
    refine ae.MI I C du du (YM order af) .nil (fun rem K=>∃ bu done,qO bu done∧done.length+rem.length=order.length∧order.reverse.map (jg N order)=done++rem.map (fun q=>jg N order q.2)∧(∀ q∈rem,0≤q.2∧q.2<N.length)∧K=rZ N an iC jM xR db order num one own bu done) (fun _ _=>False) (fun _ _=>False) ⟨none,[],rfl,by rw [kh];simp,by rw [← wq,au1];rfl,(fun q br=>by
      have:q.2∈order.reverse:=by rw [← wq];exact List.mem_map_of_mem br
      exact qS.lt _ (List.mem_reverse.1 this)),rfl⟩ ?_ ?_ (fun _ _ h=>h.elim) (fun _ _ h=>h.elim)
    · rintro s₁ ⟨ad2,eX⟩ rem K ⟨bu,done,cR,pS,mX,qT,rfl⟩ I
      have Y0:=qT _ i6;simp only at Y0;obtain ⟨a,rfl⟩:∃ a:Nat,eX=a:=⟨eX.toNat,by omega⟩;obtain ⟨x,ab,bL⟩:=b8 (f:=eN) (l:=N) (show a<N.length by omega);have pc:jg N order a=if x.atom≥0 then { x with no:=(order.length:Int)-1-placeOf order x.no,yes:=(order.length:Int)-1-placeOf order x.yes } else x:=by
        unfold jg;simp only [ae1,d7,ab,af9]
      rw [ae3,g9] at *;have cy:=Bk x.ms .bb (by have:=iV x (d5 ab);omega);have A5:=OU order x.no;have adn:=OU order x.yes;unfold eN ha bd at bL;unfold I' Ja;unfold rZ pa at I ⊢;simp only [aa',d8] at I ⊢;have l1:=eT x.no;have Jl:=eT x.yes;have O6:=oV.get x.no;have O7:=oV.get x.yes;generalize (if order.contains x.no then some (ag.int .i64 (placeOf order x.no)) else if ([]:List Int).contains x.no then some (ag.int .i64 (-1)) else none)=ad0 at l1 O6;generalize (if order.contains x.yes then some (ag.int .i64 (placeOf order x.yes)) else if ([]:List Int).contains x.yes then some (ag.int .i64 (-1)) else none)=aer at Jl O7;by_cases cX:x.atom≥0
      · rw [g6 cX] at pc
        have b2:t7 .i64 (t7 .i64 ((order.length:Int)-1)-placeOf order x.no)=(order.length:Int)-1-placeOf order x.no:=by
          rw [dz (n:=(order.length:Int)-1) af af,dz af af]
        have bU:t7 .i64 (t7 .i64 ((order.length:Int)-1)-placeOf order x.yes)=(order.length:Int)-1-placeOf order x.yes:=by
          rw [dz (n:=(order.length:Int)-1) af af,dz af af]
        repeat (first|(refine LB I ?_;clear I;intro I)|refine aa.eb ah I rfl rfl rfl rfl rfl rfl rfl (fun cH I=>?_)|(refine qo ?_))
        refine ae.cond C (fun _=>?_) (fun h=>absurd cX e2);skip;obtain ⟨r0,rfl⟩:∃ x,x=cH:=⟨_,rfl⟩;have r1:=(⟨bo.get aW I,bo.get aW I,.int .i64 x.no,bo.get aW I⟩:Jh iC an r0 order num x _);refine ae.nf (Jh iC an r0 order num x) ah mixed C (bg.run r1 C ?_);refine bg.ni 0 ah r1 C C C C C C C C (fun _ h=>h.1) b1 ?_;refine bg.ni 8 ah r1 C C C C C C C C (fun _ h=>h.1) b1 ?_;refine bg.Uu 13 ah r1 rfl rfl rfl rfl rfl rfl rfl rfl (fun _ h=>by obtain ⟨_,_,v,h⟩:=h;exact ⟨_,_,h,rfl⟩) ?_;refine bg.run r1 C ?_;refine bg.OY 14 ah r1 C C C C C C C C C C C C (fun _ h=>h.2.1) C O7 C ?_;rw [Jl];refine bg.run r1 C ?_;refine bg.Jg 5 ah I r1 C C C C C C C C aW b1 ?_;refine bg.run r1 C ?_;refine bg.OY 6 ah r1 C C C C C C C C C C C C (fun _ h=>h.2.1) C O6 C ?_;rw [l1];refine bg.run r1 C ?_;refine bg.cK 17 ah I C C C C C C C C C C C aW C (fun I => .inl ⟨bo.get aW I,bo.get aW I,_,bo.get aW I⟩) (fun I=>?_);refine bg.run (⟨bo.get aW I,bo.get aW I,_,bo.get aW I⟩:Jh iC an r0 order num x _) C ?_;refine bg.cK 19 ah I C C C C C C C C C C C aW C (fun _ => .inr C) (fun I=>?_);refine bc.done C ?_;rcases bu with _|⟨g2,eA,ew⟩
        · have bq:done=[]:=cR
          subst bq;unfold gm fU at I ⊢;refine cC I ?_;intro I;refine aa.o5 ah I C C C C C C C di C C C C C C C du (fun cT eA ew cu cL dT I=>?_);refine cC I ?_;intro I;exact At.mk (rZ N an iC jM xR db order num one own (some (cT,eA,ew)) ([]++[jg N order a])) I (by simp only [rZ,fU,gm,pa,aa',d8,f6,g9,af6];exact aX) ⟨trivial,some (cT,eA,ew),[]++[jg N order a],⟨cu,oW,by rw [qP,pc];refine dT.trans ?_;rw [← b2,← bU,d9];rfl⟩,by simp at pS ⊢;omega,by rw [mX];simp,fun q br=>qT q (i0 _ br),rfl⟩
        · obtain ⟨e8,fB,gq⟩:=cR
          unfold gm fU at I ⊢;refine cC I ?_;intro I;refine aa.o6 ah I C C C C C C C di C C C C aW e8 fB C C C C EN af (fun cT eA ew cu cL dT I=>?_);refine cC I ?_;intro I;exact At.mk (rZ N an iC jM xR db order num one own (some (cT,eA,ew)) (done++[jg N order a])) I (by simp only [rZ,fU,gm,pa,aa',d8,f6,g9,af6];exact aX) ⟨trivial,some (cT,eA,ew),done++[jg N order a],⟨cu,oW,by rw [qP,pc,f6,g9,af6,← gq];refine dT.trans ?_;rw [← b2,← bU,d9];rfl⟩,by simp at pS ⊢;omega,by rw [mX];simp,fun q br=>qT q (i0 _ br),rfl⟩
      · rw [f0 cX] at pc
        repeat (first|(refine LB I ?_;clear I;intro I)|refine aa.eb ah I rfl rfl rfl rfl rfl rfl rfl (fun cH I=>?_)|(refine qo ?_))
        refine ae.cond C (fun h=>absurd e2 cX) (fun _=>?_);refine cC I ?_;intro I;rcases bu with _|⟨g2,eA,ew⟩
        · have bq:done=[]:=cR
          subst bq;unfold gm fU at I ⊢;skip;refine aa.o5 ah I C C C C C C C di C C C C C C C du (fun cT eA ew cu cL dT I=>?_);refine cC I ?_;intro I;exact At.mk (rZ N an iC jM xR db order num one own (some (cT,eA,ew)) ([]++[jg N order a])) I (by simp only [rZ,fU,gm,pa,aa',d8,f6,g9,af6];exact aX) ⟨trivial,some (cT,eA,ew),[]++[jg N order a],⟨cu,oW,by rw [qP,pc];refine dT.trans ?_;rfl⟩,by simp at pS ⊢;omega,by rw [mX];simp,fun q br=>qT q (i0 _ br),rfl⟩
        · obtain ⟨e8,fB,gq⟩:=cR
          unfold gm fU at I ⊢;skip;refine aa.o6 ah I C C C C C C C di C C C C aW e8 fB C C C C EN af (fun cT eA ew cu cL dT I=>?_);refine cC I ?_;intro I;exact At.mk (rZ N an iC jM xR db order num one own (some (cT,eA,ew)) (done++[jg N order a])) I (by simp only [rZ,fU,gm,pa,aa',d8,f6,g9,af6];exact aX) ⟨trivial,some (cT,eA,ew),done++[jg N order a],⟨cu,oW,by rw [qP,pc,f6,g9,af6,← gq];refine dT.trans ?_;rfl⟩,by simp at pS ⊢;omega,by rw [mX];simp,fun q br=>qT q (i0 _ br),rfl⟩
    · rintro K ⟨bu,done,cR,pS,mX,-,rfl⟩ I
      rw [ah1,d6] at mX;rw [← mX,← h3] at cR;refine tC ?_;rw [← mX,← h3] at I ⊢;unfold rZ at I ⊢;rcases bu with _|⟨g2,eA,ew⟩
      · have bq:small g=[]:=cR
        rw [bq];unfold gm;refine cC I ?_;intro I;exact Fin.bs I C aQ.empty .nil ⟨rfl,rfl⟩
      · obtain ⟨e8,fB,gq⟩:=cR
        have vk:(small g).length≤1000:=by rw [h3,d9,at1];omega
        unfold gm fU at I ⊢;refine ae.BV I 0 .here aW C gq B2 (jY _) fB af (fun I=>?_);simp only [ar',← xQ] at I ⊢;refine cC I ?_;intro I;exact Fin.bs I C aJ .nil ⟨rfl,rfl⟩
  | succ m=>
  have au:m<g.length:=hm;have pz:(((m+1:Nat):Int)-1)=(m:Int):=by omega
  obtain ⟨x,ab,-⟩:=b8 (f:=eN) au;have aI:=I4 av ab;have zv:(jf g (m+1))[m]? = some x:=by rw [OO g af hm,ab]
  have jB:=fun (k:Nat) (v:ag) (aE:(ha x)[k]? = some v)=>OK (jY _) gB.2.2 (by rw [ae4,zv];rfl) aE
  unfold pb at I ⊢;simp only [pz] at I ⊢;refine hD I ?_;intro I;refine aa.ej ah m C C C C C C C C C C af ?_;refine fI ?_;refine aa.jd ah I C C C C C C aW C (jB 0 _ C) ?_;refine gr ?_;refine ae.wS (σ:=List ag) (fun _=>[(0,.aA 4 (g.map eN) .bb),(3,ee db g.length g.length),(4,.ptr o0 0),(5,.int .i64 (m:Int)),(6,.ptr lQ (m*4))]) (fun cs'=>pb g o0 lQ db cap (m+1) cs') (fun cs'=>qO (some (lQ,cap,cs')) ((jf g (m+1)).set m (lu g m x))) ?_ ?_
  · refine ae.cond C (fun a6=>?_) (fun a6=>?_)
    · have a6:x.atom≥0:=by simpa using a6
      obtain ⟨yv,we,O8,O9⟩:=av.eX m x ab a6
      have hJ:=fun (z:Int) (U:(m:Int)<z) (ad:z<g.length)=>(show ((fF g (m+1)).map a8)[z.toNat*1]? = some (.int .i64 ((fF g (m+1)).getD z.toNat 0)) from by
        rw [ag',ae4,d7,f7 (by rw [zp g hm];omega)];rfl)
      have n1:=qN (k:=1) (v := .int .i64 ((fF g (m+1)).getD x.no.toNat 0)) (jY _) gB.2.2 (by rw [ae4,zv];rfl) af
      have mP:=qN (k:=2) (v := .int .i64 ((fF g (m+1)).getD x.yes.toNat 0)) (fun c aB=>by
        rcases aj7 aB with aB|rfl
        · exact jY _ c aB
        · rfl) n1.2 (aj9 (by rw [d9,BZ g hm];omega)) af
      have vC:lu g m x={ x with no:=(fF g (m+1)).getD x.no.toNat 0,yes:=(fF g (m+1)).getD x.yes.toNat 0 }:=by unfold lu;rw [g6 a6]
      have nO:=BZ g hm;have fr:m*4+3≤cs.length:=by rw [gB.1];have:=gB.2.1;omega
      have O':Nat.ble (m*4+1+[ag.int .i64 ((fF g (m+1)).getD x.no.toNat 0)].length) cs.length=true:=by rw [ax2];show m*4+1+1≤_;omega
      have Pa:Nat.ble (m*4+2+[ag.int .i64 ((fF g (m+1)).getD x.yes.toNat 0)].length) (eM (m*4+1) [ag.int .i64 ((fF g (m+1)).getD x.no.toNat 0)] cs).length=true:=by rw [ax2,n1.1];show m*4+2+1≤_;omega
      skip;refine ae.nf (dc [(db,_)]) ah mixed C (bg.run (dc.one (bo.get aW I)) C ?_);refine bg.two (i:=6) (j:=13) (dc.one (bo.get aW I)) C C C C C C (aZ.ey ah I C C C aW (nu C (jB 1 _ C))) C C C C (aZ.ey ah I C C C aW (nu C (jB 2 _ C))) ?_ ?_
      · refine bg.ej 7 ah (dc.one (bo.get aW I)) (j:=x.no.toNat) C C C C C C C C C C C af af ?_
        refine bg.ni 8 ah (dc.one (bo.get aW I)) C C C C C C C C (fun _ h=>dc.fst h) (nu C (hJ x.no af af)) ?_;refine bg.Jg 13 ah I (dc.one (bo.get aW I)) C C C C C C C C aW (nu C (jB 2 _ C)) ?_;refine bg.ej 14 ah (dc.one (bo.get aW I)) (j:=x.yes.toNat) C C C C C C C C C C C af af ?_;refine bg.ni 15 ah (dc.one (bo.get aW I)) C C C C C C C C (fun _ h=>dc.fst h) (nu C (hJ x.yes af af)) ?_;refine bg.run (dc.one (bo.get aW I)) C ?_;refine bg.cK 18 ah I C C C C C C C C C C C aW O' (fun I => .inl (dc.one (bo.get aW I))) (fun I=>?_);refine bg.run (dc.one (bo.get aW I)) C ?_;refine bg.cK 21 ah I C C C C C C C C C C C aW Pa (fun _ => .inr C) (fun I=>?_);refine bc.done C ?_;skip
        exact k8.mk _ I ⟨mP.1.trans (n1.1.trans gB.1),by rw [af1];exact gB.2.1,by
          rw [af1]
          refine mP.2.trans ?_
          rw [ar1,al',vC]
          rfl⟩ (cl C) (by simp only [pb];exact aX)
      · refine bg.ej 14 ah (dc.one (bo.get aW I)) (j:=x.yes.toNat) C C C C C C C C C C C af af ?_
        refine bg.ni 15 ah (dc.one (bo.get aW I)) C C C C C C C C (fun _ h=>dc.fst h) (nu C (hJ x.yes af af)) ?_;refine bg.Jg 6 ah I (dc.one (bo.get aW I)) C C C C C C C C aW (nu C (jB 1 _ C)) ?_;refine bg.ej 7 ah (dc.one (bo.get aW I)) (j:=x.no.toNat) C C C C C C C C C C C af af ?_;refine bg.ni 8 ah (dc.one (bo.get aW I)) C C C C C C C C (fun _ h=>dc.fst h) (nu C (hJ x.no af af)) ?_;refine bg.run (dc.one (bo.get aW I)) C ?_;refine bg.cK 18 ah I C C C C C C C C C C C aW O' (fun I => .inl (dc.one (bo.get aW I))) (fun I=>?_);refine bg.run (dc.one (bo.get aW I)) C ?_;refine bg.cK 21 ah I C C C C C C C C C C C aW Pa (fun _ => .inr C) (fun I=>?_);refine bc.done C ?_;skip
        exact k8.mk _ I ⟨mP.1.trans (n1.1.trans gB.1),by rw [af1];exact gB.2.1,by
          rw [af1]
          refine mP.2.trans ?_
          rw [ar1,al',vC]
          rfl⟩ (cl C) (by simp only [pb];exact aX)
    · have a6:¬ x.atom≥0:=by simpa using a6
      have vC:lu g m x=x:=by unfold lu;rw [f0 a6]
      refine gx ?_;exact k8.mk cs I (by rw [vC,gn zv];exact gB) (cl C) (by simp only [pb];exact aX)
  intro cs' sY I;generalize xm:lu g m x=y at sY aI;have nO:=BZ g hm;have mP:(cd (m+1) (g.drop (m+1))).2.length=g.length-(m+1):=by rw [(oh _ _).2,ai1]
  have Jm:∀ j,((jf g (m+1)).set m y)[m+1+j]? = (cd (m+1) (g.drop (m+1))).2[j]? := fun j=>by
    rw [an8 af,ON g hm]
  have Jn:((jf g (m+1)).set m y)[m]? = some y:=aj9 af;have EU:=fun (k:Nat) (v:ag) (aE:(ha y)[k]? = some v)=>OK (jY _) sY.2.2 (by rw [ae4,Jn];rfl) aE
  have EV:(jf g (m+1)).set m y=jf g m:=OP au aI C;have Jo:(g.length:Int)-1=((m+(g.length-1-m):Nat):Int):=by omega
  unfold pb at I ⊢;refine fP ?_;refine ae.b5 [0,3,4,5,6] C I (σ:=Nat) (fun c=>[(7,.int .i64 ((m+c:Nat):Int))]) (fun _=>pb g o0 lQ db cap (m+1) cs') (fun c=>m+c<g.length∧mN (lv g m y) 0 (cd (m+1) (g.drop (m+1))).2=mN (lv g m y) 0 ((cd (m+1) (g.drop (m+1))).2.take c)) (fun c=>c) (g.length-1-m) ⟨by omega,by rw [ag9 af]⟩ (by repeat (first|exact trivial|refine ⟨⟨_,rfl,aJ⟩,?_⟩|refine ⟨⟨_,rfl,aQ.of_eq (by (rw [iK,hw,Jo]))⟩,?_⟩)) (by simp only [pb];exact aX) ?_;rintro c ⟨aB,aq⟩ I;simp only [pb] at aB aq I ⊢;cases c with
  | zero=>
    rw [aq,al4,mN] at aI;refine b7 ?_;refine ae.cond C (fun h=>by simp at h) (fun _=>?_);refine bl ?_;refine aa.ej ah m C C C C C C C C C C af ?_;refine aa.hQ ah I _ C C C C C C C C C aW (by rw [d9,zp g hm];show m*1+1≤_;omega) C (fun I=>?_);have vd:eM (m*1) [.int .i64 (m:Int)] ((fF g (m+1)).map a8)=(fF g m).map a8:=by
      rw [mQ,ag',← I5 aI C,al'];rfl
    refine fj ?_;exact bn.mk (m,cs') I ⟨by omega,by rw [← EV];exact sY⟩ (by repeat (first|exact trivial|refine ⟨⟨_,rfl,aJ⟩,?_⟩|refine ⟨⟨_,rfl,aQ.of_eq xc⟩,?_⟩)) (by simp only [pb,← vd];exact aX) vy
  | succ c=>
    have cy:c<(cd (m+1) (g.drop (m+1))).2.length:=by omega
    obtain ⟨z,bG⟩:∃ z,(cd (m+1) (g.drop (m+1))).2[c]? = some z:=⟨_,f7 cy⟩;have B5:=Jm c;rw [bG] at B5;have hJ:((fF g (m+1)).map a8)[(m+1+c)*1]? = some (.int .i64 ((cd (m+1) (g.drop (m+1))).1.getD c 0)):=by
      rw [← B0,ag',ae4,d7,f7 (by rw [zp g hm];omega)];rfl
    have hr:(cd (m+1) (g.drop (m+1))).2.take (c+1)=(cd (m+1) (g.drop (m+1))).2.take c++[z]:=by rw [am2,bG];rfl
    rw [hr,OM,af5,List.length_take,am8 af] at aq;have mc:lv g m y c z=((cd (m+1) (g.drop (m+1))).1.getD c 0==((m+1+c:Nat):Int)&&z==y):=rfl;obtain ⟨dm,lN,xS⟩:=B1 _ _ _ _ bG;have m9:=av.ms dm (av4 lN);have hK:=av.ms x (d5 ab);have uP:=OQ g m x;rw [xm] at uP;have heq:=A1 y.ms z.ms (by rw [uP];omega) (by rw [xS];omega);have OT:(((m+(c+1):Nat):Int)-1)=((m+c:Nat):Int):=by omega
    have pd:((m+1+c:Nat):Int)=((m+(c+1):Nat):Int):=by omega
    refine b7 ?_;refine ae.cond C (fun _=>?_) (fun h=>by simp at h;omega);refine cC I ?_;intro I;refine aa.ej ah (m+1+c) C C C C C C C C C af af ?_;refine aa.ey ah I C C C C C C aW (EG C (jY _) sY.2.2 (by rw [ae4,B5];rfl)) ?_;refine et ?_;refine aK.ej ah (m+1+c) C C C C C C C C C af af ?_;refine aK.jd ah I C C C C C C aW C hJ ?_;refine jF ?_;by_cases cu:(cd (m+1) (g.drop (m+1))).1.getD c 0=((m+(c+1):Nat):Int);rotate_left
    · refine aK.split 74 C (fun h=>absurd e2 cu) (fun _=>?_)
      have iU:lv g m y c z=false:=by rw [mc,pd,show ((cd (m+1) (g.drop (m+1))).1.getD c 0==((m+(c+1):Nat):Int))=false from beq_eq_false_iff_ne.2 cu,f9]
      rw [iU,f0 ba] at aq;refine j8 ?_;exact bn.mk c I ⟨by omega,aq⟩ (by repeat (first|exact trivial|refine ⟨⟨_,rfl,aJ⟩,?_⟩|refine ⟨⟨_,rfl,aQ.of_eq vx⟩,?_⟩)) aX vz
    refine aK.split 74 C (fun _=>?_) (fun h=>absurd cu e2);rw [pd,show ((cd (m+1) (g.drop (m+1))).1.getD c 0==((m+(c+1):Nat):Int))=true from beq_iff_eq.2 cu,f5,YG] at mc;refine jF ?_;refine aK.jd ah I C C C C C C aW C (EU 0 _ C) ?_;refine jF ?_;by_cases cL:y.atom=z.atom;rotate_left
    · refine aK.split 83 C (fun h=>absurd e2 cL) (fun _=>?_)
      have iU:lv g m y c z=false:=by rw [mc,show decide (z.atom=y.atom)=false from ab' (fun e=>cL e.symm)];simp
      rw [iU,f0 ba] at aq;refine j8 ?_;exact bn.mk c I ⟨by omega,aq⟩ (by repeat (first|exact trivial|refine ⟨⟨_,rfl,aJ⟩,?_⟩|refine ⟨⟨_,rfl,aQ.of_eq vx⟩,?_⟩)) aX vz
    refine aK.split 83 C (fun _=>?_) (fun h=>absurd cL e2);rw [show decide (z.atom=y.atom)=true from i7 cL.symm,f5] at mc;refine jF ?_;refine aK.jd ah I C C C C C C aW C (EU 1 _ C) ?_;refine jF ?_;by_cases dT:y.no=z.no;rotate_left
    · refine aK.split 92 C (fun h=>absurd e2 dT) (fun _=>?_)
      have iU:lv g m y c z=false:=by rw [mc,show decide (z.no=y.no)=false from ab' (fun e=>dT e.symm)];simp
      rw [iU,f0 ba] at aq;refine j8 ?_;exact bn.mk c I ⟨by omega,aq⟩ (by repeat (first|exact trivial|refine ⟨⟨_,rfl,aJ⟩,?_⟩|refine ⟨⟨_,rfl,aQ.of_eq vx⟩,?_⟩)) aX vz
    refine aK.split 92 C (fun _=>?_) (fun h=>absurd dT e2);rw [show decide (z.no=y.no)=true from i7 dT.symm,f5] at mc;refine jF ?_;refine aK.jd ah I C C C C C C aW C (EU 2 _ C) ?_;refine jF ?_;by_cases qe:y.yes=z.yes;rotate_left
    · refine aK.split 101 C (fun h=>absurd e2 qe) (fun _=>?_)
      have iU:lv g m y c z=false:=by rw [mc,show decide (z.yes=y.yes)=false from ab' (fun e=>qe e.symm)];simp
      rw [iU,f0 ba] at aq;refine j8 ?_;exact bn.mk c I ⟨by omega,aq⟩ (by repeat (first|exact trivial|refine ⟨⟨_,rfl,aJ⟩,?_⟩|refine ⟨⟨_,rfl,aQ.of_eq vx⟩,?_⟩)) aX vz
    refine aK.split 101 C (fun _=>?_) (fun h=>absurd qe e2);rw [show decide (z.yes=y.yes)=true from i7 qe.symm,f5] at mc;refine jF ?_;refine aK.jd ah I C C C C C C aW C (EU 3 _ C) ?_;have Pb:(z.ms==y.ms)=(y.ms==z.ms):=by rw [af7,al6,al6];exact ⟨fun h=>h.symm,fun h=>h.symm⟩
    cases oa:y.ms==z.ms with
    | false=>
      have iU:lv g m y c z=false:=by rw [mc,Pb,oa]
      rw [oa] at heq;rw [iU,f0 ba] at aq;refine b' ?_;exact bn.mk c I ⟨by omega,aq⟩ (by repeat (first|exact trivial|refine ⟨⟨_,rfl,aJ⟩,?_⟩|refine ⟨⟨_,rfl,aQ.of_eq vx⟩,?_⟩)) aX vz
    | true=>
      have iU:lv g m y c z=true:=by rw [mc,Pb,oa]
      rw [iU,g6 C] at aq;rw [aq] at aI;simp only [pd] at aI;rw [oa] at heq;refine c2 ?_;refine aa.ej ah m C C C C C C C C C C af ?_;refine aa.hQ ah I _ C C C C C C C C C aW (by rw [d9,zp g hm];show m*1+1≤_;omega) C (fun I=>?_);have vd:eM (m*1) [.int .i64 ((m+(c+1):Nat):Int)] ((fF g (m+1)).map a8)=(fF g m).map a8:=by
        rw [mQ,ag',← I5 aI C,al'];rfl
      refine bl ?_;exact bn.mk (m,cs') I ⟨by omega,by rw [← EV];exact sY⟩ (by repeat (first|exact trivial|refine ⟨⟨_,rfl,aJ⟩,?_⟩|refine ⟨⟨_,rfl,aQ.of_eq xc⟩,?_⟩)) (by simp only [pb,← vd];exact aX) vy
section
variable {P:Program} {Γ:cA} {N:Nat} {l:List Oper} {i:Nat} {rest:List Oper} {Q:b9→Env→ao→Prop} {env:Env} {s:ao} {o:Oper} {d:Nat}
theorem aK.Pc {L R dw:a'} {q8:Nat} {db:dH} (aP:bQ P Γ) (I:Ok s L) {t T:TypeId} {x y:Operand} {dP:bO} {b off:Nat} {cs us:List ag} {v:ag} (cs':List ag) (av:c6 l env o) (ax:o.dst=none) (aD:eJ l.toArray (2^i-1) (idxs 0 l)=[i])
  (b3:o.op = .store t x y) (aN:Γ.get? t=some dP) (ab:aM (b4 l env o) x=some (.ptr b off)) (ay:aM (b4 l env o) y=some v)
  (aw:cellsOf v=some us) (hu:af0 us.length dP.size=true) (U:us.all fe=true) (ar:bo L (.own b) (.box T cs) R) (fr:off+us.length≤cs.length) (he:eM off us cs=cs') (Y1:bo ((.own b,.box T cs')::R) (.own q8) db dw)
  (h:Ok s ((.own b,.box T cs')::R)→aK (fun aj=>aj q8=some db) P Γ N l (i+1) rest Q env (aS s ((.own b,.box T cs')::R))):aK (fun aj=>aj q8=some db) P Γ N l i (o::rest) Q env (aS s L):=by
 subst he;exact aK.MD av ax aD (aZ.cK aP I b3 aN ab ay aw hu U ar (by simpa [ax2] using fr) (X:=fun _ _=>False)) (fun x aj ⟨b2,bU⟩=>by subst b2;exact Y1.get bU) (fun x aj ⟨b2,bU⟩=>by subst b2;exact h bU) (fun _ _ h=>h.elim)
theorem aK.nX {J:ao→Prop} (aP:bQ P Γ) {t bI e:TypeId} {x y:Operand} {it cz aH:bO} {dX bY:Nat} {xs ys:List ag} {own dr:bN} (av:c6 l env o) (ax:o.dst=some d) (aU:t8 d N=true)
  (ai:o.op = .call { callee := .builtin .append,args := #[x,y],argTypes := #[t,bI] }) (aN:Γ.get? t=some it) (bt:it.bF = .aA e) (c0:Γ.get? bI=some cz) (dy:∀ k,cz.bF ≠ .int k)
  (bJ:Γ.get? e=some aH) (ab:aM (b4 l env o) x=some (.aA dX xs own)) (ay:aM (b4 l env o) y=some (.aA bY ys dr)) (gE:xs=[]∨dX=aH.size) (de:ys=[]∨bY=aH.size)
  (dS:af0 aH.zero.cells.size aH.size=true) (dC:∀ y∈ys,km aH.size y=true) (an:(xs.length+ys.length)*aH.bytes≤140737488355328) (ek:xs.length+ys.length≤9223372036854775807)
  (qn:own = .nil∨own = .clip) (h:aK J P Γ N l (i+1) rest Q ((d,.aA aH.size (xs++ys) .bb)::env) s):aK J P Γ N l i (o::rest) Q env s:=
 aK.calm av ax aU (fun _ _=>aZ.nX aP ai aN bt c0 dy bJ ab ay gE de dS dC an ek qn) h
end
theorem Y2 {g:List bP} {m:Nat} {y:bP} {a b:Nat} {nj zw:bP} (a6:(cd (m+1) (g.drop (m+1))).2[a]? = some nj) (an:(cd (m+1) (g.drop (m+1))).2[b]? = some zw) (U:lv g m y a nj=true) (ad:lv g m y b zw=true):a=b:=by
 have key:∀ {a b:Nat} {nj zw:bP},(cd (m+1) (g.drop (m+1))).2[a]? = some nj→(cd (m+1) (g.drop (m+1))).2[b]? = some zw→lv g m y a nj=true→lv g m y b zw=true→a<b→False:=by
  intro a b nj zw a6 an U ad au;unfold lv at U ad;rw [f8,al6,al6] at U ad;have kh:=(ae2.1 an).1;rw [(oh _ _).2] at kh;refine OL (g.drop (m+1)) (m+1) a b au kh U.1 ad.1 ?_;rw [d7,d7,a6,an];exact U.2.trans ad.2.symm
 rcases as5 a b with h|h|h
 ·exact (key a6 an U ad h).elim
 ·exact h
 ·exact (key an a6 ad U h).elim
def pe (m:Nat) (K:Option Nat) (c:Nat):Int:=match K with
 | some j=>if c≤j then ((m+1+j:Nat):Int) else (m:Int)
 | none=>(m:Int)
theorem Y3 {m c:Nat} {K:Option Nat} (h:K=some c):pe m K c=((m+1+c:Nat):Int):=by rw [h,pe,g6 (g8 _)]
theorem Pd {m c:Nat} {K:Option Nat} (h:K≠some c):pe m K c=pe m K (c+1):=by
 cases K with
 | none=>rfl
 | some j=>
  have:j≠c:=fun e=>h (by rw [e])
  rw [pe,pe];by_cases aB:c≤j
  ·rw [g6 aB,g6 af]
  ·rw [f0 aB,f0 af]
theorem Y4 {m c:Nat} {K:Option Nat} (h:∀ j,K=some j→j<c):pe m K c=(m:Int):=by
 cases K with
 | none=>rfl
 | some j=>rw [pe,f0 (by have:=h j C;omega)]
def xU (g:List bP) (lQ db m:Nat) (cs:List ag):a':=[(.own lQ,.box 69 cs),(.own db,.box 3 ((fF g m).map a8))]
theorem Y5 (g:List bP) (av:qQ g):bA d0 116 [hv g] [] (fun o K=>o = .ret (bd (cd 0 g).1)∧K=[]):=by
  have lD:bC=1099511627776:=rfl;have n6:=av.pos;have kU:=av.len;refine bA.bh ah Tryz.func116 C C fun s I=>?_
  unfold hv;refine dt ?_;refine aa.rC ah I (g.map eN).length C C C C C C C C C C C C (by rw [d9];show _*8≤_;omega) pV (fun db I=>?_);refine fI ?_;refine aa.ES ah I (yss:=g.map ha) C C C C C C C di C C C C (by rw [← xQ];rfl) C (jY g) (by simpa using n6) (by rw [d9];show _*48≤_;omega) pV (fun lQ cap ET cu cL dT I=>?_);simp only [d9] at cL dT I ⊢;have Ji:qO (some (lQ,cap,ET)) g:=⟨cu,cL,dT⟩;refine bl ?_;have ji:=O0 g;have iK:((g.map eN).length:Int)=(g.length:Int):=by rw [d9]
  have hw:t7 .i64 ((g.length:Int)-1)=(g.length:Int)-1:=dz af af;refine ae.b5 [0,3,4] C I (σ:=Nat×List ag) (fun q=>[(5,.int .i64 ((q.1:Int)-1))]) (fun q=>xU g lQ db q.1 q.2) (fun q=>q.1≤g.length∧qO (some (lQ,cap,q.2)) (jf g q.1)) (fun q=>q.1) (g.length,ET) ⟨g8 _,by rw [O1];exact Ji⟩ (by repeat (first|exact trivial|refine ⟨⟨_,rfl,aJ⟩,?_⟩|refine ⟨⟨_,rfl,aQ.of_eq (by (rw [iK,hw]))⟩,?_⟩)) (by unfold xU;simp only [ji];exact aX) ?_;rintro ⟨iw,cs⟩ ⟨hm,gB⟩ I;simp only [xU] at hm gB I ⊢;cases iw with
  | zero=>
    have Jj:fF g 0=(cd 0 g).1:=by unfold fF;simp
    obtain ⟨zu,kR⟩:=oh g 0;rw [Jj] at I ⊢;refine tC ?_;refine ae.tG I 3 db C aW (by rw [d9];exact zu) (g8 _) af (by rw [ag9 (by rw [d9,zu];exact g8 _)];simp [List.all_map,a8];intros;rfl) (fun I=>?_);rw [ag9 (by rw [d9,zu];exact g8 _)];refine bl ?_;exact Fin.bs I C aJ .nil ⟨rfl,rfl⟩
  | succ m=>
  have au:m<g.length:=hm;have pz:(((m+1:Nat):Int)-1)=(m:Int):=by omega
  obtain ⟨x,ab,bL⟩:=b8 (f:=eN) au;have aI:=I4 av ab;have zv:(jf g (m+1))[m]? = some x:=by rw [OO g af hm,ab]
  have nO:=BZ g hm;simp only [pz] at I ⊢;unfold eN ha bd at bL;refine bl ?_;refine ae.wS (σ:=List ag) (fun _=>[(0,.aA 4 (g.map eN) .bb),(3,ee db g.length g.length),(4,ee lQ g.length cap),(5,.int .i64 (m:Int))]) (fun cs'=>xU g lQ db (m+1) cs') (fun cs'=>qO (some (lQ,cap,cs')) ((jf g (m+1)).set m (lu g m x))) ?_ ?_
  · refine ae.cond C (fun a6=>?_) (fun a6=>?_)
    · have a6:x.atom≥0:=by simpa using a6
      obtain ⟨yv,we,O8,O9⟩:=av.eX m x ab a6
      have hJ:=fun (z:Int) (U:(m:Int)<z) (ad:z<g.length)=>(show ((fF g (m+1)).map a8)[z.toNat*1]? = some (.int .i64 ((fF g (m+1)).getD z.toNat 0)) from by
        rw [ag',ae4,d7,f7 (by rw [zp g hm];omega)];rfl)
      have n1:=qN (k:=1) (v := .int .i64 ((fF g (m+1)).getD x.no.toNat 0)) (jY _) gB.2.2 (by rw [ae4,zv];rfl) af
      have mP:=qN (k:=2) (v := .int .i64 ((fF g (m+1)).getD x.yes.toNat 0)) (fun c aB=>by
        rcases aj7 aB with aB|rfl
        · exact jY _ c aB
        · rfl) n1.2 (aj9 (by rw [d9,BZ g hm];omega)) af
      have vC:lu g m x={ x with no:=(fF g (m+1)).getD x.no.toNat 0,yes:=(fF g (m+1)).getD x.yes.toNat 0 }:=by unfold lu;rw [g6 a6]
      have fr:m*4+3≤cs.length:=by rw [gB.1];have:=gB.2.1;omega
      refine ae.sw I db aW ah mixed C ?_;refine c2 ?_;refine aK.ej ah x.no.toNat C C C C C C C C C af af ?_;refine aK.oF ah C C C C C C (nu C (hJ x.no yv we)) ?_;refine c2 ?_;refine aK.ej ah x.yes.toNat C C C C C C C C C af af ?_;refine aK.oF ah C C C C C C (nu C (hJ x.yes O8 O9)) ?_;refine aK.ej ah m C C C C C C C C C C af ?_;refine jF ?_;refine aK.Pc ah I _ C C C C C C C C C C aW (by show m*4+1+1≤_;omega) C aW (fun I=>?_);refine aK.ej ah m C C C C C C C C C C af ?_;refine jF ?_;refine aK.hQ ah I _ C C C C C C C C C C aW (by rw [n1.1];show m*4+2+1≤_;omega) C (fun I=>?_);skip
      exact k8.mk _ I ⟨mP.1.trans (n1.1.trans gB.1),by rw [af1];exact gB.2.1,by
        rw [af1]
        refine mP.2.trans ?_
        rw [ar1,al',vC]
        rfl⟩ (cl C) (by simp only [xU];exact aX)
    · have a6:¬ x.atom≥0:=by simpa using a6
      have vC:lu g m x=x:=by unfold lu;rw [f0 a6]
      refine gx ?_;exact k8.mk cs I (by rw [vC,gn zv];exact gB) (cl C) (by simp only [xU];exact aX)
  intro cs' sY I;generalize xm:lu g m x=y at sY aI;have mP:(cd (m+1) (g.drop (m+1))).2.length=g.length-(m+1):=by rw [(oh _ _).2,ai1]
  have Jm:∀ j,((jf g (m+1)).set m y)[m+1+j]? = (cd (m+1) (g.drop (m+1))).2[j]? := fun j=>by
    rw [an8 af,ON g hm]
  have Jn:((jf g (m+1)).set m y)[m]? = some y:=aj9 af;have EV:(jf g (m+1)).set m y=jf g m:=OP au aI C;have Jo:(g.length:Int)-1=((m+(g.length-1-m):Nat):Int):=by omega
  have fZ:=zp g hm;generalize sZ:mN (lv g m y) 0 (cd (m+1) (g.drop (m+1))).2=s0 at aI;have vd:(fF g (m+1)).set m (pe m s0 0)=fF g m:=by
    rw [← I5 aI C];refine ae7 _ ?_;cases s0 with
    | none=>rfl
    | some j=>rw [pe,g6 (g7 _)]
  have Y6:pe m s0 (g.length-1-m)=(m:Int):=Y4 (fun j h=>by
    rw [h] at sZ
    have:=(zo sZ).2.1
    omega)
  have mE:∀ (v ff:Int),eM (m*1) [.int .i64 ff] (((fF g (m+1)).set m v).map a8)=((fF g (m+1)).set m ff).map a8:=fun v ff=>by
    rw [mQ,ag',← ar1 (b:=ff) (a:=v),al' (l:=(fF g (m+1)).set m v)];rfl
  have Y7:eM (m*1) [.int .i64 (m:Int)] ((fF g (m+1)).map a8)=((fF g (m+1)).set m (pe m s0 (g.length-1-m))).map a8:=by
    rw [mQ,ag',Y6,al'];rfl
  unfold xU at I ⊢;refine jE ?_;refine aa.ej ah m C C C C C C C C C C af ?_;refine aa.hQ ah I _ C C C C C C C C C aW (by rw [d9,fZ];show m*1+1≤_;omega) Y7 (fun I=>?_);refine bl ?_;refine ae.b5 [0,3,4,5] C I (σ:=Nat) (fun c=>[(6,.int .i64 ((m+c:Nat):Int))]) (fun c=>[(.own lQ,.box 69 cs'),(.own db,.box 3 (((fF g (m+1)).set m (pe m s0 c)).map a8))]) (fun c=>m+c<g.length) (fun c=>c) (g.length-1-m) af (by repeat (first|exact trivial|refine ⟨⟨_,rfl,aJ⟩,?_⟩|refine ⟨⟨_,rfl,aQ.of_eq (by (rw [iK,hw,Jo]))⟩,?_⟩)) aX ?_;rintro c aB I
  try simp only at aB I ⊢
  cases c with
  | zero=>
    rw [vd] at I ⊢;refine b7 ?_;refine ae.cond C (fun h=>by simp at h) (fun _=>?_);refine kL ?_;exact bn.mk (m,cs') I ⟨by omega,by rw [← EV];exact sY⟩ (by repeat (first|exact trivial|refine ⟨⟨_,rfl,aJ⟩,?_⟩|refine ⟨⟨_,rfl,aQ.of_eq xc⟩,?_⟩)) aX vy
  | succ c=>
    have cy:c<(cd (m+1) (g.drop (m+1))).2.length:=by omega
    obtain ⟨z,bG⟩:∃ z,(cd (m+1) (g.drop (m+1))).2[c]? = some z:=⟨_,f7 cy⟩;have B5:=Jm c;rw [bG] at B5;have hJ:(((fF g (m+1)).set m (pe m s0 (c+1))).map a8)[(m+1+c)*1]? = some (.int .i64 ((cd (m+1) (g.drop (m+1))).1.getD c 0)):=by
      rw [← B0,ag',ae4,an8 af,d7,f7 af];rfl
    have mc:lv g m y c z=((cd (m+1) (g.drop (m+1))).1.getD c 0==((m+1+c:Nat):Int)&&z==y):=rfl;obtain ⟨dm,lN,xS⟩:=B1 _ _ _ _ bG;have m9:=av.ms dm (av4 lN);have hK:=av.ms x (d5 ab);have uP:=OQ g m x;rw [xm] at uP;have pC:=MQ z y (by rw [xS];omega) (by rw [uP];omega);have OT:(((m+(c+1):Nat):Int)-1)=((m+c:Nat):Int):=by omega
    have pd:((m+1+c:Nat):Int)=((m+(c+1):Nat):Int):=by omega
    refine b7 ?_;refine ae.cond C (fun _=>?_) (fun h=>by simp at h;omega);refine pD ?_;refine aK.ej ah (m+1+c) C C C C C C C C C af af ?_;refine aK.jd ah I C C C C C C aW C hJ ?_;refine jF ?_;by_cases cu:(cd (m+1) (g.drop (m+1))).1.getD c 0=((m+(c+1):Nat):Int);rotate_left
    · refine aK.split 68 C (fun h=>absurd e2 cu) (fun _=>?_)
      have iU:lv g m y c z=false:=by rw [mc,pd,show ((cd (m+1) (g.drop (m+1))).1.getD c 0==((m+(c+1):Nat):Int))=false from beq_eq_false_iff_ne.2 cu,f9]
      have kg:s0≠some c:=fun h=>by
        rw [h] at sZ;obtain ⟨-,-,F4,n3,gG⟩:=zo sZ;rw [av0,bG] at n3;cases n3;rw [iU] at gG;cases gG
      have mz:=Pd (m:=m) kg;refine j8 ?_;exact bn.mk c I (by show m+c<g.length;omega) (by repeat (first|exact trivial|refine ⟨⟨_,rfl,aJ⟩,?_⟩|refine ⟨⟨_,rfl,aQ.of_eq vx⟩,?_⟩)) (by simp only [mz];exact aX) vz
    refine aK.split 68 C (fun _=>?_) (fun h=>absurd cu e2);rw [pd,show ((cd (m+1) (g.drop (m+1))).1.getD c 0==((m+(c+1):Nat):Int))=true from beq_iff_eq.2 cu,f5] at mc;refine jF ?_;refine aK.ej ah (m+1+c) C C C C C C C C C af af ?_;refine aK.ey ah I C C C C C C aW (EG C (jY _) sY.2.2 (by rw [ae4,B5];rfl)) ?_;refine jF ?_;refine aK.ej ah m C C C C C C C C C C af ?_;refine aK.ey ah I C C C C C C aW (EG C (jY _) sY.2.2 (by rw [ae4,Jn];rfl)) ?_;cases oa:z==y with
    | false=>
      have iU:lv g m y c z=false:=by rw [mc,oa]
      rw [oa] at pC;have kg:s0≠some c:=fun h=>by
        rw [h] at sZ;obtain ⟨-,-,F4,n3,gG⟩:=zo sZ;rw [av0,bG] at n3;cases n3;rw [iU] at gG;cases gG
      have mz:=Pd (m:=m) kg;refine b' ?_;exact bn.mk c I (by show m+c<g.length;omega) (by repeat (first|exact trivial|refine ⟨⟨_,rfl,aJ⟩,?_⟩|refine ⟨⟨_,rfl,aQ.of_eq vx⟩,?_⟩)) (by simp only [mz];exact aX) vz
    | true=>
      have iU:lv g m y c z=true:=by rw [mc,oa]
      rw [oa] at pC;have zx:s0=some c:=by
        cases aE:s0 with
        | none=>
          rw [aE] at sZ;have:=I3 sZ c z bG;rw [af5,iU] at this;cases this
        | some j=>
          rw [aE] at sZ;obtain ⟨-,-,F4,n3,gG⟩:=zo sZ;rw [av0] at n3;rw [Y2 n3 bG gG iU]
      have mz:=Y3 (m:=m) zx;rw [pd] at mz;refine c2 ?_;refine aa.ej ah m C C C C C C C C C C af ?_;refine aa.hQ ah I _ C C C C C C C C C aW (by rw [d9,af1,fZ];show m*1+1≤_;omega) (mE _ _) (fun I=>?_);refine fj ?_;exact bn.mk c I (by show m+c<g.length;omega) (by repeat (first|exact trivial|refine ⟨⟨_,rfl,aJ⟩,?_⟩|refine ⟨⟨_,rfl,aQ.of_eq vx⟩,?_⟩)) (by simp only [mz];exact aX) vz
theorem Jp:∀ (k:Nat) (l:List bP) (i:Nat),(cd i l).1.drop k=(cd (i+k) (l.drop k)).1∧(cd i l).2.drop k=(cd (i+k) (l.drop k)).2
  | 0,l,i=>⟨rfl,rfl⟩
  | k+1,[],i=>by rw [cd,aw9,aw9,cd];exact ⟨rfl,rfl⟩
  | k+1,x::r,i=>by
    have:=Jp k r (i+1);rw [cd,ar4];simp only [ar4];rw [show i+(k+1)=i+1+k by omega];exact this
def nE (one:List Int) (x:bP):bP:=if x.atom≥0 then { x with no:=one.getD x.no.toNat 0,yes:=one.getD x.yes.toNat 0 } else x
theorem Pe (g:List bP) {m z:Nat} (h:m≤z):(fF g m).getD z 0=(cd 0 g).1.getD z 0:=by
 have e:=B0 g m (z-m);rw [show m+(z-m)=z by omega] at e;have d:=(Jp m g 0).1;rw [af5] at d;rw [e,← d,d7,d7,as2,show m+(z-m)=z by omega]
theorem Jq {g:List bP} (av:qQ g) {a:Nat} {x:bP} (ab:g[a]? = some x):(cd 0 g).2[a]? = some (nE (cd 0 g).1 x):=by
 have U:=I4 av ab;have d:=(Jp a g 0).2;rw [af5,U] at d;have ad:((cd 0 g).2.drop a)[0]? = some (lu g a x):=by rw [d];rfl
 rw [as2,ao'] at ad;rw [ad];congr 1;unfold lu nE;split
 ·rename_i h
  have:=av.eX a x ab h;rw [Pe g af,Pe g af]
 ·rfl
theorem xV {g:List bP} (av:qQ g) {b:Nat} (an:b<g.length):∃ a:Nat,(cd 0 g).1[b]? = some (a:Int)∧b≤a∧a<g.length:=by
 have aC:=(oh g 0).1;have lY:=I2 (n:=g.length) g 0 af (fun k x ab a6=>by have:=av.eX k x ab a6;rw [af5];exact this);have h:=(lY b an).1;obtain ⟨v,aw⟩:∃ v,(cd 0 g).1[b]? = some v:=⟨_,f7 af⟩;rw [d7,aw,af9] at h;exact ⟨v.toNat,by rw [aw,show ((v.toNat:Nat):Int)=v by omega],by omega,by omega⟩
theorem Jr {g:List bP} (av:qQ g):Down (cd 0 g).2:=fun i x ab a6=>by
 obtain ⟨U,ad⟩:=oh g 0;have sI:=(ae2.1 ab).1;obtain ⟨y,ay⟩:∃ y,g[i]? = some y:=⟨_,f7 af⟩;have az:=Jq av ay;rw [ab] at az;cases az;unfold nE at a6 ⊢;by_cases h:y.atom≥0
 ·rw [g6 h]
  obtain ⟨d1,d2,d3,d4⟩:=av.eX i y ay h;obtain ⟨a,Y8,Js,ado⟩:=xV av (b:=y.no.toNat) af;obtain ⟨c,mi,sK,adp⟩:=xV av (b:=y.yes.toNat) af;simp only;rw [d7,Y8,d7,mi];simp only [af9];omega
 ·rw [f0 h] at a6
  exact absurd a6 h
theorem Y9 (g:List bP) (av:qQ g):∀ (k b a:Nat),b<g.length→(cd 0 g).1[b]? = some (a:Int)→a<g.length→g.length-a≤k→∀ (order:List Int) (own:bN),nD g.length order →
  bA d0 117 [hv g,bd (cd 0 g).1,.aA 1 (order.map a8) own,.int .i64 (b:Int)] [(own,.row 3 1 order.length)] (fun o K=>∃ cM,o = .ret (.aA 1 ((meet (cd 0 g).2 k order a).map a8) cM)∧K=[(cM,.row 3 1 (meet (cd 0 g).2 k order a).length)]):=by
 have lD:bC=1099511627776:=rfl;have kU:=av.len;have sX:=Jr av;have EW:=(oh g 0).2;intro k
 induction k with
 | zero=>intro b a U ad al bf;omega
 | succ k a1=>
  intro b a an Jk a6 aE order own ug;have hlen:=ug.len;obtain ⟨x,ab,bL⟩:=b8 (f:=eN) a6;have hg:=Jq av ab;have mg:=B3 (k:=k) (order:=order) hg;have adq:((cd 0 g).1.map a8)[b]? = some (.int .i64 (a:Int)):=by rw [ae4,Jk];rfl
  refine bA.bh ah Tryz.func117 C C fun s I=>?_
  unfold hv bd at *;unfold eN ha bd at bL;refine bl ?_;refine ae.b5 [0,1,2,3] C I (σ:=Nat) (fun j=>[(9,.int .i64 (j:Int))]) (fun _=>[(own,.row 3 1 order.length)]) (fun j=>j≤order.length∧order.contains (a:Int)=(order.drop j).contains (a:Int)) (fun j=>order.length-j) 0 ⟨g7 _,rfl⟩ (cl C) (aG.all _) ?_;rintro j ⟨aL,aq⟩ I
  try simp only at aL aq I ⊢
  refine b7 ?_;refine ae.cond C (fun au=>?_) (fun aV=>?_)
  ·have au:j<order.length:=by simpa using au
   obtain ⟨y,ay,c8⟩:=b8 (f:=a8) au;rw [drop_cons ay,aq0] at aq;unfold a8 at c8;refine dG ?_;refine ae.cond C (fun aB=>?_) (fun aB=>?_)
   ·have aB:y=(a:Int):=by simpa using aB
    rw [show ((a:Int)==y)=true by rw [aB,beq_self_eq_true],ak3] at aq;rw [aq,g6 C] at mg;rw [mg];refine kp ?_;exact Fin.bs I C aJ (aG.all _) ⟨own,rfl,rfl⟩
   ·have aB:y≠(a:Int):=by simpa using aB
    rw [show ((a:Int)==y)=false from beq_eq_false_iff_ne.2 (fun e=>aB e.symm),ag6] at aq;refine gx ?_;exact bn.mk (j+1) I ⟨au,aq⟩ cj (aG.all _) (by show order.length-(j+1)<order.length-j;omega)
  have aV:j=order.length:=by simp at aV;omega
  rw [eD af] at aq;have aq:order.contains (a:Int)=false:=aq;rw [aq,f0 ba] at mg;rw [mg];by_cases cX:x.atom≥0
  ·have gE:nE (cd 0 g).1 x={ x with no:=(cd 0 g).1.getD x.no.toNat 0,yes:=(cd 0 g).1.getD x.yes.toNat 0 }:=by unfold nE;rw [g6 cX]
   rw [gE,g6 cX];obtain ⟨d1,d2,d3,d4⟩:=av.eX a x ab cX;obtain ⟨y,ay⟩:∃ y:Nat,x.yes=y:=⟨x.yes.toNat,by omega⟩;obtain ⟨z,bG⟩:∃ z:Nat,x.no=z:=⟨x.no.toNat,by omega⟩;obtain ⟨EX,uh,zy,B6⟩:=xV av (b:=y) af;obtain ⟨nj,EY,z2,z3⟩:=xV av (b:=z) af;simp only [ay,bG,ae1,d7,uh,EY,af9] at bL ⊢;have nS:=sV sX k EX af af order (by rw [EW];exact ug);rw [EW] at nS;have iU:=sV sX k nj af af _ (by rw [EW];exact nS.1);rw [EW] at iU;have i1:=a1 y EX af uh B6 af order own ug;have i2:=fun pQ=>a1 z nj af EY z3 af (meet (cd 0 g).2 k order EX) pQ nS.1
   have mF:=iU.1.len;refine bl ?_;refine ae.cond C (fun _=>?_) (fun h=>absurd cX e2);refine dG ?_;refine aa.bX rfl rfl rfl rfl rfl i1 I (aG.all _) ?_ (fun _ _ h _=>by obtain ⟨_,h,_⟩:=h;cases h);rintro _ _ ⟨pQ,⟨⟩,rfl⟩ I;rw [d6] at I ⊢;refine dG ?_;refine aa.bX rfl rfl rfl rfl rfl (i2 pQ) I (aG.all _) ?_ (fun _ _ h _=>by obtain ⟨_,h,_⟩:=h;cases h);rintro _ _ ⟨qt,⟨⟩,rfl⟩ I;rw [d6] at I ⊢;refine fI ?_;refine aa.fO ah I C C C C C C C di C C C C C C C C aW gY jS af (fun bR I=>?_);refine er ?_;exact Fin.bs (K:=[(.own bR,.row 3 1 ((meet (cd 0 g).2 k (meet (cd 0 g).2 k order EX) nj)++[(a:Int)]).length)]) I C (aQ.of_eq (by rw [ad'];rfl)) (by simp only [f6,g9,af6];exact aX) ⟨.own bR,rfl,rfl⟩
  ·have gE:nE (cd 0 g).1 x=x:=by unfold nE;rw [f0 cX]
   rw [gE,f0 cX];refine bl ?_;refine ae.cond C (fun h=>absurd e2 cX) (fun _=>?_);refine dG ?_;refine aa.fO ah I C C C C C C C di C C C C C C C C aW gY jS af (fun bR I=>?_);refine er ?_;exact Fin.bs (K:=[(.own bR,.row 3 1 (order++[(a:Int)]).length)]) I C (aQ.of_eq (by rw [ad'];rfl)) (by simp only [f6,g9,af6];exact aX) ⟨.own bR,rfl,rfl⟩
theorem EZ {N:List bP} (eI:Down N):∀ (k a:Nat),a<N.length→N.length-a≤k→∀ order:List Int,(∀ y∈order,y∈meet N k order a)∧(a:Int)∈meet N k order a
  | 0,a,U,ad,_=>by omega
  | k+1,a,U,ad,order=>by
    obtain ⟨x,ab⟩:∃ x,N[a]? = some x:=⟨_,f7 U⟩;rw [B3 ab];cases aB:order.contains (a:Int) with
    | true=>rw [g6 C];exact ⟨fun y h=>h,ah8.1 aB⟩
    | false=>
      rw [f0 ba];refine ⟨fun y ay=>aj0 _ ?_,ao6 _ ba⟩;split
      · rename_i a6
        obtain ⟨d1,d2,d3,d4⟩:=eI a x ab a6;obtain ⟨u,hu⟩:∃ u:Nat,x.yes=u:=⟨x.yes.toNat,by omega⟩;obtain ⟨z,bG⟩:∃ z:Nat,x.no=z:=⟨x.no.toNat,by omega⟩;rw [hu,bG];exact (EZ eI k z af af _).1 y ((EZ eI k u af af order).1 y ay)
      · exact ay
def E0 (N:List bP) (order:List Int) (y:Int):Prop:=∀ x,N[y.toNat]? = some x→x.atom≥0→x.no∈order∧x.yes∈order
theorem E0.mono {N:List bP} {o o':List Int} {y:Int} (h:E0 N o y) (ar:∀ z∈o,z∈o'):E0 N o' y:=fun x ab a6=>⟨ar _ (h x ab a6).1,ar _ (h x ab a6).2⟩
theorem Jt {N:List bP} (eI:Down N):∀ (k a:Nat),a<N.length→N.length-a≤k→∀ order:List Int,∀ y∈meet N k order a,y∈order∨E0 N (meet N k order a) y
  | 0,a,U,ad,_=>by omega
  | k+1,a,U,ad,order=>by
    obtain ⟨x,ab⟩:∃ x,N[a]? = some x:=⟨_,f7 U⟩;rw [B3 ab];cases aB:order.contains (a:Int) with
    | true=>rw [g6 C];exact fun y h => .inl h
    | false=>
      rw [f0 ba];by_cases a6:x.atom≥0
      · rw [g6 a6]
        obtain ⟨d1,d2,d3,d4⟩:=eI a x ab a6;obtain ⟨u,hu⟩:∃ u:Nat,x.yes=u:=⟨x.yes.toNat,by omega⟩;obtain ⟨z,bG⟩:∃ z:Nat,x.no=z:=⟨x.no.toNat,by omega⟩;rw [hu,bG];have s1:=EZ eI k u af af order;have s2:=EZ eI k z af af (meet N k order u);have cu:=Jt eI k u af af order;have cL:=Jt eI k z af af (meet N k order u);intro y ay;rcases ae'.1 ay with ay|ay
        · rcases cL y ay with h|h
          · rcases cu y h with h|h
            · exact .inl h
            · exact .inr (h.mono fun w hw=>aj0 _ (s2.1 w hw))
          · exact .inr (h.mono fun w hw=>aj0 _ hw)
        · rw [H1.1 ay]
          refine .inr fun nI bL _=>?_
          rw [ae1,ab] at bL;cases bL;rw [hu,bG];exact ⟨aj0 _ s2.2,aj0 _ (s2.1 _ s1.2)⟩
      · rw [f0 a6]
        intro y ay;rcases ae'.1 ay with ay|ay
        · exact .inl ay
        · rw [H1.1 ay]
          refine .inr fun nI bL Y'=>?_
          rw [ae1,ab] at bL;cases bL;exact absurd Y' a6
theorem Ju {order:List Int} (az:order.Nodup) {i:Nat} {x:Int} (ab:order[i]? = some x):placeOf order x=(i:Int):=by
 obtain ⟨U,ad⟩:=ae2.1 ab;have:order.findIdx? (· == x)=some i:=by
  rw [ah3];refine ⟨U,by rw [ad];simp,fun j aL=>?_⟩;rw [Bool.not_eq_true,beq_eq_false_iff_ne];intro he;have:=(List.getElem_inj az).1 (he.trans ad.symm);omega
 unfold placeOf;rw [this];rfl
section
variable {P:Program} {Γ:cA} {N:Nat} {env:Env} {s:ao} {Q:b9→Env→ao→Prop} {L R:a'}
theorem dI.B7 {B:fV} {ro:Option Nat} {a:Act} {w:World} {p:bV} (h:dI N B ro env s a w p) {t b n cap sz:Nat} {T:TypeId} {cs:List ag} {xss:List (List ag)} (aN:env.get? t=some (ee b n cap)) (ar:s b=some (.box T cs)) (ab:cs.take (n*sz)=xss.flatten) (fm:xss.length=n) (cc:∀ c∈xss,c.length=sz) (az:n≤cap) (hm:n≤9223372036854775807):∃ bj,dI N B ro ((t,.aA sz (xss.map ag.agg) .bb)::env) (s.del b) a w bj∧dg w p w bj∧Kept s (s.del b) w p w bj:=by
 have GA:dI N B ro ((a.tmps.size,.any)::[]) s a w p:=h.restrict _ (fun t v aw=>by
  simp only [Env.get?] at aw
  split at aw
  ·cases aw;exact .any _
  ·cases aw)
 obtain ⟨vs,U,ad,al⟩:=h.wf.obj _ _ ar;have au:b<w.heap.size:=(i9.1 U).1;have hle:dg w p w (p.ei b True):=⟨rfl,rfl,rfl,g8 _,fun _ _ h => .inl h,fun _ _ _=>rfl,fun _ _ h=>h⟩
 have aE:Kept s (s.del b) w p w (p.ei b True):=⟨fun _ _ _=>rfl,fun aY an az=>by
  by_cases e:aY=b
  ·subst e;exact ao.nN _ _
  ·rw [ao.m3 _ e];exact az,fun aY o an az aF=>by
   rcases aF with aF|⟨rfl,_⟩
   ·exact aF
   ·rw [ar] at az;cases az⟩
 have cf:dx w (p.ei b True) (s.del b):=by
  refine ⟨fun aY o an=>?_,fun aY o aF=>by rcases aF with aF|⟨rfl,_⟩;exact h.wf.lt _ _ aF;exact au⟩;by_cases e:aY=b
  ·subst e;rw [ao.nN] at an;cases an
  ·rw [ao.m3 _ e] at an
   have ai:=h.wf.obj aY o an;have fg:∀ o,p.ei b True aY o↔p aY o:=fun o=>⟨fun aF=>by rcases aF with aF|⟨e',_⟩;exact aF;exact absurd e' e,.inl⟩
   cases o with
   | box t c=>obtain ⟨us,g1,g2,g3⟩:=ai;exact ⟨us,g1,g2.mono hle,fun o aF=>g3 o ((fg o).1 aF)⟩
   | row t sz n=>obtain ⟨cur,g1,g2,g3,g4⟩:=ai;exact ⟨cur,g1,g2,g3,fun o=>(fg o).trans (g4 o)⟩
   | map es=>obtain ⟨cQ,c,g1,g2,g3⟩:=ai;exact ⟨cQ,c,g1,⟨g2.1.mono hle,g2.2.mono hle⟩,g3⟩
   | lz es it l c=>exact ai.q1 hle C C
   | tick m=>exact ai
   | loop r env=>exact ⟨ai.1,fun t v h=>(ai.2 t v h).mono hle⟩
 have aI:=h.step hle aE cf;refine ⟨_,⟨aI.size,fun bI v aw=>?_,aI.wf,aI.defs,aI.round,aI.base⟩,hle,aE⟩;simp only [Env.get?] at aw;split at aw
 ·rename_i he
  have:=ae0 he;subst this;cases aw;have aD:=h.env t _ aN;generalize a.tmps.getD t undef=dR at aD;cases aD;have hr:=ad.take (n*sz);rw [ab] at hr;obtain ⟨us,b2,bU,e1⟩:=G9 hr cc;refine .aA b 0 n cap sz us (xss.map ag.agg) .bb ba (by rw [d9,fm]) ?_ (b2.mono hle) e1 hm az (fun h=>by cases h) (fun b h=>by cases h);rw [bU];intro i v aR;refine ⟨.inr ⟨rfl,trivial⟩,?_⟩;rw [af5,jO U];rw [List.getElem?_take] at aR;split at aR
  ·simpa using aR
  ·cases aR
 ·exact aI.env bI v aw
theorem ae.B7 {c:Code} (I:Ok s L) (t b:Nat) {n cap sz:Nat} {T:TypeId} {cs:List ag} {xss:List (List ag)} (aN:env.get? t=some (ee b n cap)) (ar:bo L (.own b) (.box T cs) R) (ab:cs.take (n*sz)=xss.flatten) (fm:xss.length=n) (cc:∀ c∈xss,c.length=sz) (az:n≤cap) (hm:n≤9223372036854775807)
  (h:Ok s R→ae P N c Q ((t,.aA sz (xss.map ag.agg) .bb)::env) (aS s R)):ae P N c Q env (aS s L):=by
 obtain ⟨U,ad⟩:=ar.del I;intro tH B a w p e4 aI;obtain ⟨bj,al,bf,bE⟩:=aI.B7 aN (ar.get I) ab fm cc az hm;rw [U] at al bE;exact mq (h ad tH B a w bj e4 al) fun _ _ _ q=>q.after bf bE
end
def zz (n:Nat) (order:List Int) (j:Nat) (R:List Int):Prop:=R.length=n∧∀ (i:Nat) (x:Int),i<j→order[i]? = some x→R[x.toNat]? = some ((order.length:Int)-1-i)
theorem zz.step {n:Nat} {order:List Int} (ai:nD n order) {j:Nat} {R:List Int} (h:zz n order j R) {a:Nat} (a6:order[j]? = some (a:Int)):zz n order (j+1) (R.set a ((order.length:Int)-1-j)):=by
 have kt:=ai.lt _ (d5 a6);refine ⟨by rw [af1];exact h.1,fun i x aR ab=>?_⟩;have fm:=ai.lt _ (d5 ab);by_cases eU:i=j
 ·subst eU
  rw [a6] at ab;cases ab;rw [ae1,aj9 (by rw [h.1];omega)]
 ·have cJ:x≠(a:Int):=fun e=>by
   have U:=Ju ai.nodup ab;have ad:=Ju ai.nodup a6;rw [e,ad] at U;omega
  rw [an8 af];exact h.2 i x af ab
theorem zz.all {n:Nat} {order:List Int} (ai:nD n order) {R:List Int} (h:zz n order order.length R) {x:Int} (ab:x∈order):R[x.toNat]? = some ((order.length:Int)-1-placeOf order x):=by
 obtain ⟨i,aR⟩:=ai0 ab;rw [Ju ai.nodup aR];exact h.2 i x (ae2.1 aR).1 aR
theorem Za (g:List bP) (av:qQ g) (bG:∀ x∈g,¬ x.atom≥0→x.no=0∧x.yes=0):bA d0 71 [hv g] [] (fun o K=>o = .ret (.aA 4 ((small g).map eN) .bb)∧K=[]):=by
 have lD:bC=1099511627776:=rfl;have n6:=av.pos;have kU:=av.len;have sX:=Jr av;obtain ⟨zu,kR⟩:=oh g 0;have ki:=Y5 g av;obtain ⟨a0,E1,-,Js⟩:=xV av (b:=0) af;have h3:small g=(meet (cd 0 g).2 (g.length+1) [] a0).reverse.map (jg (cd 0 g).2 (meet (cd 0 g).2 (g.length+1) [] a0)):=by
  unfold small;simp only [d7,E1,af9];rfl
 have xT:nD g.length []:=⟨au3,fun _ h=>by cases h⟩;have qS:=(sV sX (g.length+1) a0 af af [] (by rw [kR];exact xT)).1;have Zb:=Jt sX (g.length+1) a0 af af [];rw [kR] at qS;have zA:=bA.args (.cons aJ (.cons aJ (.cons (aQ.nil (sz:=0) gN) (.one aJ)))) (Y9 g av (g.length+1) 0 a0 af E1 Js af [] .nil xT);have m':=fun (b:Nat) (an:b<g.length)=>xV av an
 have HV:=fun (a:Nat) (x:bP) (ab:g[a]? = some x)=>Jq av ab
 generalize (cd 0 g).1=one at *;generalize (cd 0 g).2=N at *;generalize meet N (g.length+1) [] a0=order at *;have hlen:=qS.len;refine bA.bh ah Tryz.func71 C C fun s I=>?_
 refine ae.h0 I 3 1 0 fun I=>?_
 unfold hv bd at *;have iK:((g.map eN).length:Int)=(g.length:Int):=by rw [d9]
 have Pf:((order.map a8).length:Int)=(order.length:Int):=by rw [d9]
 refine dt ?_;refine aa.bX rfl rfl rfl rfl rfl ki I .nil ?_ (fun _ _ ⟨h,_⟩ _=>by cases h);rintro _ _ ⟨⟨⟩,rfl⟩ I;simp only [d8] at I ⊢;refine fI ?_;refine aa.bX rfl rfl rfl rfl rfl zA I aX ?_ (fun _ _ h _=>by obtain ⟨_,h,_⟩:=h;cases h);rintro _ _ ⟨own,⟨⟩,rfl⟩ I;simp only [aa',d8] at I ⊢;refine fI ?_;refine aa.nV 4 (.aA 1 (order.map a8) .bb) C aQ.bb ?_;refine aa.rC ah I (g.map eN).length C C C C C C C C C C C C (by rw [d9];show _*8≤_;omega) pV (fun B8 I=>?_);simp only [d9] at I ⊢;refine bl ?_;have lN:t7 .i64 ((order.length:Int)-1)=(order.length:Int)-1:=dz af af;refine ae.b5 [0,3,4,5] C I (σ:=Nat×List Int) (fun q=>[(6,.int .i64 (q.1:Int))]) (fun q=>[(.own B8,.box 3 (q.2.map a8))]) (fun q=>q.1≤order.length∧zz g.length order q.1 q.2) (fun q=>order.length-q.1) (0,t6 g.length 0) ⟨g7 _,by rw [af3],fun i x aR=>by omega⟩ (cl C) (by simp only [au0];exact aX) ?_;rintro ⟨j,R⟩ ⟨aL,dM⟩ I;simp only at aL dM I ⊢;refine b7 ?_;refine ae.cond C (fun au=>?_) (fun aV=>?_)
 ·have au:j<order.length:=by simpa using au
  obtain ⟨y,ay,c8⟩:=b8 (f:=a8) au;have hK:=qS.lt _ (d5 ay);obtain ⟨a,rfl⟩:∃ a:Nat,y=a:=⟨y.toNat,by omega⟩;have Zc:=dM.1;have aI:=dM.step qS ay;have b2:t7 .i64 (t7 .i64 ((order.length:Int)-1)-(j:Int))=(order.length:Int)-1-j:=by rw [lN,dz af af]
  have mE:eM (a*1) [.int .i64 (t7 .i64 (t7 .i64 (((order.map a8).length:Int)-1)-(j:Int)))] (R.map a8)=(R.set a ((order.length:Int)-1-j)).map a8:=by
   rw [Pf,b2,mQ,ag',al'];rfl
  unfold a8 at c8;refine dG ?_;refine aa.ej ah a C C C C C C C C C C af ?_;refine aa.hQ ah I _ C C C C C C C C C aW (by show a*1+1≤(R.map a8).length;rw [d9,Zc];omega) mE (fun I=>?_);refine fj ?_;exact bn.mk (j+1,_) I ⟨au,aI⟩ cj aX (by show order.length-(j+1)<order.length-j;omega)
 have aV:j=order.length:=by simp at aV;omega
 subst aV;have D2:∀ x∈order,∀ X,N[x.toNat]? = some X→X.atom≥0→X.no∈order∧X.yes∈order:=fun x ab X hg a6=>by
  rcases Zb x ab with h|h
  ·cases h
  ·exact h X hg a6
 refine bl ?_;refine ae.b5 [0,3,4,5] C I (σ:=Nat×xN×List bP) (fun q=>[(8,.int .i64 ((q.1:Int)-1)),(7,gm q.2.1 q.2.2)]) (fun q=>(.own B8,.box 3 (R.map a8))::fU q.2.1) (fun q=>q.1≤order.length∧qO q.2.1 q.2.2∧q.2.2.length+q.1=order.length∧order.reverse.map (jg N order)=q.2.2++((order.take q.1).reverse.map (jg N order))) (fun q=>q.1) (order.length,none,[]) ⟨g8 _,rfl,by simp,by rw [ae5];rfl⟩ (by repeat (first|exact trivial|refine ⟨⟨_,rfl,aJ⟩,?_⟩|refine ⟨⟨_,rfl,aQ.of_eq (by (rw [Pf,lN]))⟩,?_⟩)) aX ?_;rintro ⟨iw,bu,done⟩ ⟨hm,cR,pS,mX⟩ I;simp only at hm cR pS mX I ⊢;cases iw with
 | zero=>
  rw [al4,List.reverse_nil,ah1,d6] at mX;rw [← mX,← h3] at cR ⊢;have vk:(small g).length≤1000:=by rw [h3,d9,at1];omega
  rcases bu with _|⟨g2,eA,ew⟩
  ·have bq:small g=[]:=cR
   rw [bq];unfold gm;refine bl ?_;exact Fin.bs I C aQ.empty .nil ⟨rfl,rfl⟩
  ·obtain ⟨e8,fB,gq⟩:=cR
   unfold gm;unfold fU at I ⊢;refine ae.B7 I 7 g2 C aW gq B2 (jY _) fB af (fun I=>?_);rw [← xQ];refine bl ?_;exact Fin.bs I C aJ .nil ⟨rfl,rfl⟩
 | succ m=>
 have pz:(((m+1:Nat):Int)-1)=(m:Int):=by omega
 have ht:m<order.length:=hm;obtain ⟨y,ay,c8⟩:=b8 (f:=a8) ht;have hK:=qS.lt _ (d5 ay);obtain ⟨a,rfl⟩:∃ a:Nat,y=a:=⟨y.toNat,by omega⟩;obtain ⟨x,ab,bL⟩:=b8 (f:=eN) (l:=g) (show a<g.length by omega);have hg:=HV a x ab;have E2:=av.ms x (d5 ab);have hr:(order.take (m+1)).reverse.map (jg N order)=jg N order a::(order.take m).reverse.map (jg N order):=by
  rw [am2,ay,az'];rfl
 rw [hr] at mX;have pc:jg N order a=if (nE one x).atom≥0 then { (nE one x) with no:=(order.length:Int)-1-placeOf order (nE one x).no,yes:=(order.length:Int)-1-placeOf order (nE one x).yes } else nE one x:=by
  unfold jg;simp only [ae1,d7,hg,af9]
 unfold a8 at c8;unfold eN ha bd at bL;simp only [pz];refine oG ?_;refine aK.nX ah C C C C C C C di C C C (.inl C) (.inr C) C (y1 _) Be yY (.inr C) ?_
 repeat (first|(refine Ub I ?_;clear I;intro I)|refine aK.HH ah I rfl rfl rfl rfl rfl rfl rfl rfl (fun cH I=>?_))
 by_cases cX:x.atom≥0
 ·obtain ⟨d1,d2,d3,d4⟩:=av.eX a x ab cX
  obtain ⟨u,hu⟩:∃ u:Nat,x.no=u:=⟨x.no.toNat,by omega⟩;obtain ⟨w,hw⟩:∃ w:Nat,x.yes=w:=⟨x.yes.toNat,by omega⟩;obtain ⟨zB,p9,r8,aee⟩:=m' u af;obtain ⟨zC,dm,jG,ix⟩:=m' w af;have gE:nE one x={ x with no:=(zB:Int),yes:=(zC:Int) }:=by
   unfold nE;rw [g6 cX,hu,hw,ae1,ae1,d7,d7,p9,dm];rfl
  rw [gE] at pc hg;rw [g6 cX] at pc;have fH:=D2 a (d5 ay) { x with no:=(zB:Int),yes:=(zC:Int) } (by rw [ae1];exact hg) cX;have Pg:=dM.all qS fH.1;have Ph:=dM.all qS fH.2;simp only [ae1] at Pg Ph;have Zd:(R.map a8)[zB*1]? = some (.int .i64 ((order.length:Int)-1-placeOf order zB)):=by rw [ag',ae4,Pg];rfl
  have Ze:(R.map a8)[zC*1]? = some (.int .i64 ((order.length:Int)-1-placeOf order zC)):=by rw [ag',ae4,Ph];rfl
  have adr:(one.map a8)[u]? = some (.int .i64 (zB:Int)):=by rw [ae4,p9];rfl
  have ads:(one.map a8)[w]? = some (.int .i64 (zC:Int)):=by rw [ae4,dm];rfl
  simp only [hu,hw] at bL;refine ae.cond C (fun _=>?_) (fun h=>absurd cX e2);refine ae.sw I B8 aW ah mixed C ?_;refine c2 ?_;refine aK.ej ah zB C C C C C C C C C C af ?_;refine aK.oF ah C C C C C C (nu C Zd) ?_;refine c2 ?_;refine aK.ej ah zC C C C C C C C C C C af ?_;refine aK.oF ah C C C C C C (nu C Ze) ?_;refine jF ?_;refine aK.Pc ah I _ C C C C C C C C C C aW (Nat.le_of_ble_eq_true C) C aW (fun I=>?_);refine cC I ?_;intro I;rcases bu with _|⟨g2,eA,ew⟩
  ·have bq:done=[]:=cR
   subst bq;unfold gm;unfold fU at I ⊢;skip;refine aa.o5 ah I C C C C C C C di C C C C C C C du (fun cT eA ew cu cL dT I=>?_);refine fj ?_;exact bn.mk (m,some (cT,eA,ew),[]++[jg N order a]) I ⟨by omega,⟨cu,oW,by rw [qP,pc];refine dT.trans ?_;rfl⟩,by simp at pS ⊢;omega,by rw [mX];simp⟩ (by repeat (first|exact trivial|refine ⟨⟨_,rfl,aJ⟩,?_⟩|refine ⟨⟨_,rfl,aQ.of_eq (by (first|rw [dz af af]|rfl))⟩,?_⟩)) (by simp only [fU];exact aX) vy
  ·obtain ⟨e8,fB,gq⟩:=cR
   unfold gm;unfold fU at I ⊢;skip;refine aa.o6 ah I C C C C C C C di C C C C aW e8 fB C C C C EN af (fun cT eA ew cu cL dT I=>?_);refine fj ?_;exact bn.mk (m,some (cT,eA,ew),done++[jg N order a]) I ⟨by omega,⟨cu,oW,by rw [qP,pc,f6,g9,af6,← gq];refine dT.trans ?_;rfl⟩,by simp at pS ⊢;omega,by rw [mX];simp⟩ (by repeat (first|exact trivial|refine ⟨⟨_,rfl,aJ⟩,?_⟩|refine ⟨⟨_,rfl,aQ.of_eq OR⟩,?_⟩)) (by simp only [fU];exact aX) vy
 ·have gE:nE one x=x:=by unfold nE;rw [f0 cX]
  rw [gE,f0 cX] at pc;obtain ⟨EY,z2⟩:=bG x (d5 ab) cX;have BM:ha x=[.int .i64 x.atom,.int .i64 0,.int .i64 0,bd x.ms]:=by unfold ha;rw [EY,z2]
  refine ae.cond C (fun h=>absurd e2 cX) (fun _=>?_);rcases bu with _|⟨g2,eA,ew⟩
  ·have bq:done=[]:=cR
   subst bq;unfold gm;unfold fU at I ⊢;refine cC I ?_;intro I;refine aa.o5 ah I C C C C C C C di C C C C C C C du (fun cT eA ew cu cL dT I=>?_);refine fj ?_;exact bn.mk (m,some (cT,eA,ew),[]++[jg N order a]) I ⟨by omega,⟨cu,oW,by rw [qP,pc];refine dT.trans ?_;rw [BM];rfl⟩,by simp at pS ⊢;omega,by rw [mX];simp⟩ (by repeat (first|exact trivial|refine ⟨⟨_,rfl,aJ⟩,?_⟩|refine ⟨⟨_,rfl,aQ.of_eq (by (first|rw [dz af af]|rfl))⟩,?_⟩)) (by simp only [fU];exact aX) vy
  ·obtain ⟨e8,fB,gq⟩:=cR
   unfold gm;unfold fU at I ⊢;refine cC I ?_;intro I;refine aa.o6 ah I C C C C C C C di C C C C aW e8 fB C C C C EN af (fun cT eA ew cu cL dT I=>?_);refine fj ?_;exact bn.mk (m,some (cT,eA,ew),done++[jg N order a]) I ⟨by omega,⟨cu,oW,by rw [qP,pc,f6,g9,af6,← gq];refine dT.trans ?_;rw [BM];rfl⟩,by simp at pS ⊢;omega,by rw [mX];simp⟩ (by repeat (first|exact trivial|refine ⟨⟨_,rfl,aJ⟩,?_⟩|refine ⟨⟨_,rfl,aQ.of_eq OR⟩,?_⟩)) (by simp only [fU];exact aX) vy
theorem Zf (p:bT) (aF:ga p) (x:i') (size:Int):aT d0 227 [cW p,jq x,.int .i64 size] (.bool (np p x size)):=by
 have an:=bD;refine aT.bh ah Tryz.func227 C C fun s I=>?_
 have cy:=aF.cls;have iK:=aF.ef;have U:=Nd x.n;have dm:t7 .i64 (3+((p.cm.map jo).length:Int))=3+(p.cm.length:Int):=by rw [d9,dz af af]
 unfold cW cZ jq la bd;by_cases aD:x.op=1∨x.op=3∨x.op=4∨x.op=7∨x.op=6∨x.op=8∨x.op=5
 ·rcases aD with h|h|h|h|h|h|h
  all_goals
   have hm:np p x size=np p x size:=rfl
   conv at hm=>rhs;unfold np
   rw [h] at hm ⊢;simp only [Int.reduceEq,ag7,ah',true_or,or_true,or_self,reduceIte] at hm;rw [hm]
   repeat' (first|(with_reducible first|apply ae.seq|apply b0|apply fY|apply fh|apply hC|apply ae.ret|apply ae.skip|apply ae.block)|refine c4 C ?_|refine ae.cF ?_|refine aa.nil ?_|refine ae.fM C ?_|refine ae.gT C ?_|refine cv C ?_|refine aa.skip C C C ?_|refine aa.ec C C C C C cx ?_|(fail_if_success refine aa.same true C ?_);(fail_if_success refine aa.same false C ?_);refine aa.hh C C (fun h=>?_) (fun h=>?_))
  all_goals (refine Fin.cB I C (aQ.of_eq (ae7 ag.bool ?_));clear I U;(try simp only [d9] at *)<;>grind)
 ·have hm:np p x size=(decide (x.n≥0)&&decide (x.n<1)):=by
   unfold np;rw [f0 af,f0 af,f0 af,f0 af,f0 af]
  rw [hm]
  repeat (first|(refine DG ?_)|refine ae.cond C (fun h=>absurd h (by first|(simp;done)|(simp;omega))) (fun _=>?_))
  repeat' (first|(with_reducible first|apply b0|apply ae.ret)|refine aa.nil ?_|refine cv C ?_|refine aa.skip C C C ?_|(fail_if_success refine aa.same true C ?_);(fail_if_success refine aa.same false C ?_);refine aa.hh C C (fun h=>?_) (fun h=>?_))
  all_goals (refine Fin.cB I C (aQ.of_eq (ae7 ag.bool ?_));clear I U;grind)
theorem Zg (w:bz):∀ (n:Nat) (f:ak),f.size≤n→n<bC→gH w f=true→aT d0 230 [f.bK] (.int .i64 (lI f)):=by
 have an:=bD;intro n
 induction n with
 | zero=>intro x h;have:=x.size_eq;omega
 | succ n a1=>
  intro f az jn av;refine aT.bh ah Tryz.func230 C C fun s I=>?_
  have iL:=f.size_eq;have hlen:=ak.qq f.kids;rw [oL,f8] at av;rw [ak.b6];rw [DU];have a6:f.c5=true→t7 .i64 (f.arg+1)=f.arg+1:=fun aC=>by
   have az:=av.1;simp only [ik,aC,ag7,f8,i8] at az;exact dz af af
  unfold ak.cells;cases aC:f.c5 with
  | true=>
   have Zh:f.op=2∨f.op=3∨f.op=4:=by unfold ak.c5 at aC;simp at aC;omega
   rcases Zh with h|h|h
   ·rw [h]
    refine bl ?_;refine ae.b5 [24,23] C I (σ:=Nat) (fun j=>[(25,.int .i64 (j:Int)),(3,.int .i64 (jb (if f.c5 then f.arg+1 else 0) (f.kids.take j)))]) (fun _=>[]) (fun j=>j≤f.kids.length) (fun j=>f.kids.length-j) 0 (g7 _) (by repeat (first|exact trivial|refine ⟨⟨_,rfl,aJ⟩,?_⟩|refine ⟨⟨_,rfl,aQ.of_eq u'⟩,?_⟩)) aX ?_;rintro j aL I;refine b7 ?_;refine ae.cond C (fun au=>?_) (fun aV=>?_);rotate_left
    ·have aV:j=f.kids.length:=by simp at aV;omega
     subst aV;rw [ae5];refine ez ?_;exact Fin.cB I C (aQ.of_eq (by rw [aC]))
    have au:j<f.kids.length:=by simpa using au
    obtain ⟨k,aE,eH⟩:=b8 (f:=ak.bK) au;have hm:=ak.h8 (d5 aE);have aB:=a1 k af af (kr av.2 (d5 aE));rw [ak.b6] at eH aB;refine et ?_;refine bn.mk (j+1) I au (by repeat (first|exact trivial|refine ⟨⟨_,rfl,aJ⟩,?_⟩|refine ⟨⟨_,rfl,aQ.of_eq u7⟩,?_⟩)) aX oR
   ·rw [h]
    refine bl ?_;refine ae.b5 [24,23] C I (σ:=Nat) (fun j=>[(25,.int .i64 (j:Int)),(3,.int .i64 (jb (if f.c5 then f.arg+1 else 0) (f.kids.take j)))]) (fun _=>[]) (fun j=>j≤f.kids.length) (fun j=>f.kids.length-j) 0 (g7 _) (by repeat (first|exact trivial|refine ⟨⟨_,rfl,aJ⟩,?_⟩|refine ⟨⟨_,rfl,aQ.of_eq u'⟩,?_⟩)) aX ?_;rintro j aL I;refine b7 ?_;refine ae.cond C (fun au=>?_) (fun aV=>?_);rotate_left
    ·have aV:j=f.kids.length:=by simp at aV;omega
     subst aV;rw [ae5];refine ez ?_;exact Fin.cB I C (aQ.of_eq (by rw [aC]))
    have au:j<f.kids.length:=by simpa using au
    obtain ⟨k,aE,eH⟩:=b8 (f:=ak.bK) au;have hm:=ak.h8 (d5 aE);have aB:=a1 k af af (kr av.2 (d5 aE));rw [ak.b6] at eH aB;refine et ?_;refine bn.mk (j+1) I au (by repeat (first|exact trivial|refine ⟨⟨_,rfl,aJ⟩,?_⟩|refine ⟨⟨_,rfl,aQ.of_eq u7⟩,?_⟩)) aX oR
   ·rw [h]
    refine bl ?_;refine ae.b5 [24,23] C I (σ:=Nat) (fun j=>[(25,.int .i64 (j:Int)),(3,.int .i64 (jb (if f.c5 then f.arg+1 else 0) (f.kids.take j)))]) (fun _=>[]) (fun j=>j≤f.kids.length) (fun j=>f.kids.length-j) 0 (g7 _) (by repeat (first|exact trivial|refine ⟨⟨_,rfl,aJ⟩,?_⟩|refine ⟨⟨_,rfl,aQ.of_eq u'⟩,?_⟩)) aX ?_;rintro j aL I;refine b7 ?_;refine ae.cond C (fun au=>?_) (fun aV=>?_);rotate_left
    ·have aV:j=f.kids.length:=by simp at aV;omega
     subst aV;rw [ae5];refine ez ?_;exact Fin.cB I C (aQ.of_eq (by rw [aC]))
    have au:j<f.kids.length:=by simpa using au
    obtain ⟨k,aE,eH⟩:=b8 (f:=ak.bK) au;have hm:=ak.h8 (d5 aE);have aB:=a1 k af af (kr av.2 (d5 aE));rw [ak.b6] at eH aB;refine et ?_;refine bn.mk (j+1) I au (by repeat (first|exact trivial|refine ⟨⟨_,rfl,aJ⟩,?_⟩|refine ⟨⟨_,rfl,aQ.of_eq u7⟩,?_⟩)) aX oR
  | false=>
   have ad:(f.op==2)=false:=by unfold ak.c5 at aC;simp at aC ⊢;omega
   have al:(f.op==3)=false:=by unfold ak.c5 at aC;simp at aC ⊢;omega
   have bf:(f.op==4)=false:=by unfold ak.c5 at aC;simp at aC ⊢;omega
   refine dt ?_;refine aa.dh 9 C ad ?_;refine dU ?_;refine aa.dh 14 C al ?_;refine gr ?_;refine ae.cond C (fun h=>by rw [bf] at h;cases h) (fun _=>?_);refine kq ?_;refine ae.b5 [24,23] C I (σ:=Nat) (fun j=>[(25,.int .i64 (j:Int)),(3,.int .i64 (jb (if f.c5 then f.arg+1 else 0) (f.kids.take j)))]) (fun _=>[]) (fun j=>j≤f.kids.length) (fun j=>f.kids.length-j) 0 (g7 _) (by repeat (first|exact trivial|refine ⟨⟨_,rfl,aJ⟩,?_⟩|refine ⟨⟨_,rfl,aQ.of_eq u'⟩,?_⟩)) aX ?_;rintro j aL I;refine b7 ?_;refine ae.cond C (fun au=>?_) (fun aV=>?_);rotate_left
   ·have aV:j=f.kids.length:=by simp at aV;omega
    subst aV;rw [ae5];refine ez ?_;exact Fin.cB I C (aQ.of_eq (by rw [aC]))
   have au:j<f.kids.length:=by simpa using au
   obtain ⟨k,aE,eH⟩:=b8 (f:=ak.bK) au;have hm:=ak.h8 (d5 aE);have aB:=a1 k af af (kr av.2 (d5 aE));rw [ak.b6] at eH aB;refine et ?_;refine bn.mk (j+1) I au (by repeat (first|exact trivial|refine ⟨⟨_,rfl,aJ⟩,?_⟩|refine ⟨⟨_,rfl,aQ.of_eq u7⟩,?_⟩)) aX oR
theorem Zi (w:World):(Instr.typeAssert .nilIface 20 291 true).run d0 w = .ok (.tuple #[.agg #[],.bool false]) w:=by kernel_rfl
theorem Zj (w:World):(Instr.typeAssert (.iface 291 (.agg #[])) 20 291 true).run d0 w = .ok (.tuple #[.agg #[],.bool true]) w:=by kernel_rfl
theorem Zk (b:Nat) (w:World) :
  CallsD d0 247 #[.pointer (some ⟨b,0,none⟩)] .returning w fun e j5 w'=>e = .returned (.tuple #[])∧j5 = .returning∧w'=w.alloc (.cells #[] 291):=by
 refine callsD_of_wpS Tryz.func247 C fun xW cs hu=>?_
 apply wpS_seq;apply wpS_region;simp [wpOpsS,go_sem,recoverD,hu,Tryz.ntmps247, Exit.thenS,Zi];refine wpS_of_wp ?_;go_wp2;cases xW;simp_all [bodyPostS,results,Tryz.results247, Exit.thenS]
theorem Zl (b:Nat) (w:World) (rest:List PanicEntry) (x:Value) (an:w.heap[b]? = some (.cells #[x] 4 (0,0))) :
  CallsD d0 247 #[.pointer (some ⟨b,0,none⟩)] (.panicking ({ v := .iface 291 (.agg #[]),recovered:=false }::rest)) w
   fun o j5 w'=>o = .returned (.tuple #[])∧j5 = .panicking ({ v := .iface 291 (.agg #[]),recovered:=true }::rest)∧w'=(w.alloc (.cells #[] 291)).setRow b #[.bool false]:=by
 refine callsD_of_wpS Tryz.func247 C fun xW cs hu=>?_
 apply wpS_seq;apply wpS_region;simp [wpOpsS,go_sem,recoverD,hu,Tryz.ntmps247, Exit.thenS,Zj];have dO:=(mw w (.cells #[] 291) b (i9.1 an).1).trans an;have cL:(w.alloc (.cells #[] 291)).cell? ⟨b,0,none⟩=some x:=by rw [jO dO];rfl
 have qe:(w.alloc (.cells #[] 291)).frozen? ⟨b,0,none⟩=false:=by simp [World.frozen?,dO]
 have oa:=Mz (x := .bool false) dO;generalize w.alloc (.cells #[] 291)=dm at cL qe oa ⊢;refine wpS_of_wp ?_;go_wp2;cases xW;simp_all [bodyPostS,results,Tryz.results247, Exit.thenS]
theorem E3 {w:World} {p:bV} {v:Value} {b o:Nat} (h:Rel w p v (.ptr b o)):v = .pointer (some ⟨b,o,none⟩):=by cases h;rfl
theorem Zm {w:World} {p:bV} {x:Value} (h:Rel w p x IS):x = .iface 291 (.agg #[]):=by
 cases h with
 | iface _ y _ h=>
 cases h with
 | agg cs xs h=>
 generalize hI:cs.toList=l at h;cases h;have:cs = #[]:=by rw [← an' (xs:=cs),hI]
 rw [this]
def Zn (qp:ao) (n:Nat) (r:Bool):b9→Env→ao→Prop
 | .ret,env,aj=>env.get? 4=some (.ptr n 0)∧r=true∧∃ M,aj=aS qp M∧Ok qp M∧∃ R,bo M (.own n) (.box 4 [.bool true]) R
 | .panic x,env,aj=>env.get? 4=some (.ptr n 0)∧r=false∧x=IS∧∃ M,aj=aS qp M∧Ok qp M∧∃ y R,bo M (.own n) (.box 4 [y]) R
 | _,_,_=>False
theorem Zo (l8:bz) (hw:gz l8) (l:List ch) (aC:3*l.length+3<bC) (ab:∀ x∈l,tY l8 x):aT d0 211 [gu l8,qF l] (.bool (nB l8 (ev l))):=by
 intro s;refine ⟨call211, fun w p vs cf eW=>?_⟩;cases eW with
 | cons v0 _ vs _ bq aN=>
 cases aN with
 | cons v1 _ vs _ U aN=>
 cases aN;unfold s';refine LN (T:=[{ target := .fn (.func 247) #[.pointer (some ⟨w.heap.size,0,none⟩)],args := #[] }]) Tryz.func211 C ?_;go_wp2;intro b uV e4;obtain ⟨az,hle,aE,E4⟩:=r9 cf (.cells #[Value.bool false] 4) (.box 4 [.bool false]) (fun w' U ad al=>⟨#[.bool false],U,al _ _ (.cons _ _ _ _ (.bool _) .nil),fun o aF=>absurd (cf.lt _ _ aF) af⟩);refine mq (ae.use (N:=10) (env:=[(0,gu l8),(1,qF l),(4,.ptr w.heap.size 0)]) (s:=aS s [(.own w.heap.size,.box 4 [.bool false])]) (Q:=Zn s w.heap.size (nB l8 (ev l))) (B:=(w.heap.size+1,[{ target := .fn (.func 247) #[.pointer (some ⟨w.heap.size,0,none⟩)],args := #[] }])) (p:=p) ?_ (by rw [e4];rfl) ⟨by simp,fun t v aw=>?_,E4,⟨[],by simp [marksOf],by simp,by simp⟩,fun l aC=>(by rw [uV] at aC;cases aC),by simp⟩) ?_
 ·have I:Ok s [(.own w.heap.size,.box 4 [.bool false])]:=⟨az,trivial⟩
  generalize w.heap.size=n at I ⊢;have aI:=XX l8 hw.ja l aC ab;have Pj:=XF (w:=l8) (l:=l) (fun x h=>⟨(ab x h).node,(ab x h).leaf⟩);refine jE ?_;refine aa.bX rfl rfl rfl rfl rfl aI I .nil ?_ (fun _ _ ⟨_,h,_⟩ _=>by cases h);rintro _ _ ⟨mb,⟨⟩,es,rfl,cG⟩ I;have ck:vq (3*l.length) (ev l):=⟨fun arg path h=>(Pj (bx arg path)).1 (by show 2≤(path.length:Int);omega),cG.mU⟩;have gO:EB l8 (ev l):=⟨fun q=>(Pj q).2⟩;have vt:=Yj l8 hw mb (3*l.length) af (ev l) ck gO (E:=[]) (mV (ev l) mb es) ⟨es,rfl,cG⟩;skip;refine aa.bX C C C C C vt I (aG.jH (aG.all _)) ?_ ?_
  ·rintro _ aO ⟨ai,dF,rfl,jr⟩ I
   cases hm:nB l8 (ev l) with
   | false=>rw [hm] at ai;cases ai
   | true=>
    have ar:=bo.app (mV (ev l) mb dF) (bo.here (L:=[]) (k := .own n) (o := .box 4 [.bool false]));rw [d8] at I;refine aa.mG I [(.own n,.box 4 [.bool false])] (.cons ar .nil) (fun I=>?_);refine cC I ?_;intro I;exact ⟨rfl,rfl,_,rfl,I,_,.here⟩
  ·rintro x aO ⟨ai,dF,rfl,jr⟩ I
   cases hm:nB l8 (ev l) with
   | true=>rw [hm] at ai;cases ai
   | false=>
    rw [hm] at ai;cases ai;exact ⟨rfl,rfl,rfl,_,rfl,I,_,_,bo.app _ .here⟩
 ·simp only [Env.get?] at aw
  split at aw
  ·rename_i e;cases aw;obtain rfl:=ae0 e
   exact bq.mono hle
  split at aw
  ·rename_i e;cases aw;obtain rfl:=ae0 e
   exact U.mono hle
  split at aw
  ·rename_i e;cases aw;obtain rfl:=ae0 e
   simp [ag1];exact .ptr _ 0
  ·cases aw
 ·rintro e c7 w' ⟨x,e0,aj,bj,bL,br,hW,Av,eH⟩
  obtain ⟨ds,tu,e7,eI⟩:=hW.defs;obtain ⟨b2,bU,e1,oy⟩:=Gt ds w' hW.wf (fun d ax=>⟨_,(eI d ax).2.1⟩);have bM:dg w p (hA w' ds) bj:=(hle.trans Av).trans b2;have uW:=aE.trans hle.size eH;have bk:Kept s s w p (hA w' ds) bj:=⟨fun aY dO gi=>(e1 aY (fun hm=>by have:=(eI aY hm).1;simp only at this;omega)).trans (uW.heap aY dO gi),fun _ _ h=>h,uW.ly⟩;have dE:=uF bU.lt (.cells #[] 291) True;have a2:=CO (s:=s) (w:=hA w' ds) (p:=bj) (.cells #[] 291) True;cases bL with
  | exit id=>exact br.elim
  | normal=>exact br.elim
  | ret=>
   obtain ⟨bf,aD,M,rfl,iX,R,pf⟩:=br;have xX:=bU.sub iX.sub;obtain ⟨cq,lj,ie,B9⟩:=bU.obj _ _ (pf.get iX);have B':cq = #[.bool true]:=by
    generalize aC:cq.toList=Dc at ie;cases ie with
    | cons v _ vs _ aw aN=>
    cases aN;cases aw;rw [← an' (xs:=cq),aC]
   subst B';have au:w.heap.size<(hA w' ds).heap.size:=(i9.1 lj).1;have Ca:=(mw (hA w' ds) (.cells #[] 291) w.heap.size au).trans lj;have jN:((hA w' ds).alloc (.cells #[] 291)).cell? ⟨w.heap.size,0,none⟩=some (.bool true):=by rw [jO Ca];rfl
   refine ⟨ds,tu,e7,fun d ax=>(eI d ax).2.1,?_⟩;refine leaves_cons (f := 247) (args := #[.pointer (some ⟨w.heap.size,0,none⟩)]) ba (by simp [go_sem]) ?_;refine (Zk w.heap.size _).mono ?_;rintro e j5 mr ⟨rfl,rfl,rfl⟩;have xY:c7.tmps[4]?.getD undef = .pointer (some ⟨w.heap.size,0,none⟩):=by
    have:=hW.env 4 _ bf;rw [ag1] at this;exact E3 this
   refine ⟨.bool true,by simp [results,Tryz.results211, go_sem,jN,xY],by simp,.ret (.bool true),s,_,.bool _,⟨by rw [aD],rfl⟩,bM.trans dE,bk.trans bM.size a2,z' xX _ True⟩
  | panic v x dJ ki aw=>
   obtain ⟨bf,aD,rfl,M,rfl,iX,y,R,pf⟩:=br;obtain ⟨rest,rfl,Jv⟩:=ki;obtain rfl:=Zm aw;have xX:=bU.sub iX.sub;obtain ⟨cq,lj,ie,B9⟩:=bU.obj _ _ (pf.get iX);obtain ⟨bv,rfl⟩:∃ bv,cq = #[bv]:=by
    generalize aC:cq.toList=Dc at ie;cases ie with
    | cons v _ vs _ aw aN=>
    cases aN;exact ⟨v,by rw [← an' (xs:=cq),aC]⟩
   have au:w.heap.size<(hA w' ds).heap.size:=(i9.1 lj).1;have Ca:=(mw (hA w' ds) (.cells #[] 291) w.heap.size au).trans lj;have xY:c7.tmps[4]?.getD undef = .pointer (some ⟨w.heap.size,0,none⟩):=by
    have:=hW.env 4 _ bf;rw [ag1] at this;exact E3 this
   obtain ⟨ea,dj,dQ,m5,tr⟩:=My (bM.trans dE) (bk.trans bM.size a2) (z' xX _ True) Ca (g8 _) (fun o aF=>by
    rcases aF with aF|⟨e,-⟩
    ·exact B9 o aF
    ·omega) az (.bool false)
   have jN:(((hA w' ds).alloc (.cells #[] 291)).setRow w.heap.size #[.bool false]).cell? ⟨w.heap.size,0,none⟩=some (.bool false):=by rw [jO tr];rfl
   refine ⟨ds,tu,e7,fun d ax=>(eI d ax).2.1,?_⟩;refine leaves_cons (f := 247) (args := #[.pointer (some ⟨w.heap.size,0,none⟩)]) ba (by simp [go_sem]) ?_;refine (Zl w.heap.size _ rest bv lj).mono ?_;rintro e j5 mr ⟨rfl,rfl,rfl⟩;have Jw:=HB Jv;simp only [settle,Jw];refine ⟨.bool false,by simp [results,Tryz.results211, go_sem,jN,xY],by simp,.ret (.bool false),s,_,.bool _,⟨by rw [aD],rfl⟩,ea,dj,dQ⟩
theorem Zp {w:World} {p:bV} {x:Value} (h:Rel w p x tT):x = .iface 298 (.agg #[]):=by
 cases h with
 | iface _ y _ h=>
 cases h with
 | agg cs xs h=>
 generalize hI:cs.toList=l at h;cases h;have:cs = #[]:=by rw [← an' (xs:=cs),hI]
 rw [this]
theorem Zq (w:World):(Instr.typeAssert (.iface 298 (.agg #[])) 20 298 true).run d0 w = .ok (.tuple #[.agg #[],.bool true]) w:=by kernel_rfl
theorem Zr (w:World):(binOp BinOp.neq 20 (.iface 298 (.agg #[])) .nilIface).run d0 w = .ok (.bool true) w:=by kernel_rfl
theorem Zs (x y:Operand) (w:World):(eqGuard BinOp.neq 20 x y (.iface 298 (.agg #[])) .nilIface).run d0 w = .ok () w:=by
 unfold eqGuard;simp
theorem Zt (b:Nat) (w:World) :
  CallsD d0 253 #[.pointer (some ⟨b,0,none⟩)] .returning w fun e j5 w'=>e = .returned (.tuple #[])∧j5 = .returning∧w'=w:=by
 refine callsD_of_wpS Tryz.func253 C fun xW cs hu=>?_
 apply wpS_seq;apply wpS_region;simp [wpOpsS,go_sem,recoverD,hu,Tryz.ntmps253, Exit.thenS];refine wpS_of_wp ?_;go_wp2;cases xW;simp_all [bodyPostS,results,Tryz.results253, Exit.thenS]
theorem Zu (b:Nat) (w:World) (rest:List PanicEntry) (x:Value) (an:w.heap[b]? = some (.cells #[x] 4 (0,0))) :
  CallsD d0 253 #[.pointer (some ⟨b,0,none⟩)] (.panicking ({ v := .iface 298 (.agg #[]),recovered:=false }::rest)) w
   fun o j5 w'=>o = .returned (.tuple #[])∧j5 = .panicking ({ v := .iface 298 (.agg #[]),recovered:=true }::rest)∧w'=(w.alloc (.cells #[] 298)).setRow b #[.bool false]:=by
 refine callsD_of_wpS Tryz.func253 C fun xW cs hu=>?_
 apply wpS_seq;apply wpS_region;simp [wpOpsS,go_sem,recoverD,hu,Tryz.ntmps253, Exit.thenS];apply wpS_seq;apply wpS_region;simp [wpOpsS,go_sem,Exit.thenS,Zs,Zr];refine wpS_cond (t:=true) (by simp [Act.eval,Act.put]) ?_;simp only [ag7]
 repeat apply wpS_seq
 apply wpS_region;simp [wpOpsS,go_sem,Exit.thenS,Zq];have dO:=(mw w (.cells #[] 298) b (i9.1 an).1).trans an;have cL:(w.alloc (.cells #[] 298)).cell? ⟨b,0,none⟩=some x:=by rw [jO dO];rfl
 have qe:(w.alloc (.cells #[] 298)).frozen? ⟨b,0,none⟩=false:=by simp [World.frozen?,dO]
 have oa:=Mz (x := .bool false) dO;generalize w.alloc (.cells #[] 298)=dm at cL qe oa ⊢
 repeat apply wpS_seq
 apply wpS_region;simp [wpOpsS,go_sem,Exit.thenS];refine wpS_of_wp ?_;go_wp2;cases xW;simp_all [bodyPostS,results,Tryz.results253, Exit.thenS];refine wpS_of_wp ?_;go_wp2;simp_all [bodyPostS,results,Tryz.results253, Exit.thenS]
def Zv (qp:ao) (n:Nat) (G B:a'→Prop):b9→Env→ao→Prop
 | .ret,env,aj=>env.get? 2=some (.ptr n 0)∧∃ M,aj=aS qp M∧Ok qp M∧∃ K,G K∧bo M (.own n) (.box 4 [.bool true]) K
 | .panic x,env,aj=>env.get? 2=some (.ptr n 0)∧x=tT∧∃ M,aj=aS qp M∧Ok qp M∧∃ y K,B K∧bo M (.own n) (.box 4 [y]) K
 | _,_,_=>False
theorem Zw (f:FuncId) (first cap:List ag) (nn:a') (G B:a'→Prop) (h:dA d0 (.func f first cap) [] nn (fun o K=>(o = .ret (.cw [])∧G K)∨(o = .panic tT∧B K))) :
  bA d0 220 [.func f first cap] nn (fun o K=>(o = .ret (.bool true)∧G K)∨(o = .ret (.bool false)∧B K)):=by
 intro s Zx;refine ⟨call220, fun w p vs cf eW=>?_⟩;cases eW with
 | cons v0 _ vs _ bq aN=>
 cases aN;unfold s';refine LN (T:=[{ target := .fn (.func 253) #[.pointer (some ⟨w.heap.size,0,none⟩)],args := #[] }]) Tryz.func220 C ?_;go_wp2;intro b uV e4;obtain ⟨az,hle,aE,E4⟩:=r9 cf (.cells #[Value.bool false] 4) (.box 4 [.bool false]) (fun w' U ad al=>⟨#[.bool false],U,al _ _ (.cons _ _ _ _ (.bool _) .nil),fun o aF=>absurd (cf.lt _ _ aF) af⟩);have I:Ok s ((.own w.heap.size,.box 4 [.bool false])::nn):=⟨az,Zx⟩;refine mq (ae.use (N:=6) (env:=[(0,.func f first cap),(2,.ptr w.heap.size 0)]) (s:=aS s ((.own w.heap.size,.box 4 [.bool false])::nn)) (Q:=Zv s w.heap.size G B) (B:=(w.heap.size+1,[{ target := .fn (.func 253) #[.pointer (some ⟨w.heap.size,0,none⟩)],args := #[] }])) (p:=p) ?_ (by rw [e4];rfl) ⟨by simp,fun t v aw=>?_,E4,⟨[],by simp [marksOf],by simp,by simp⟩,fun l aC=>(by rw [uV] at aC;cases aC),by simp⟩) ?_
 ·clear aE E4 az
  generalize w.heap.size=n at I ⊢;refine jE ?_;refine aa.gM C C C C C C h I (aG.there (e:=(.own n,.box 4 [.bool false])) (aG.all nn)) ?_ ?_
  ·rintro _ aO (⟨⟨⟩,en⟩|⟨h,_⟩) I
   ·have ar:=bo.app aO (bo.here (L:=[]) (k := .own n) (o := .box 4 [.bool false]))
    rw [d6] at ar;refine cC I ?_;intro I;exact ⟨rfl,_,rfl,I,aO,en,.here⟩
   ·cases h
  ·rintro x aO (⟨h,_⟩|⟨⟨⟩,cG⟩) I
   ·cases h
   exact ⟨rfl,rfl,_,rfl,I,_,aO,cG,by have:=bo.app aO (bo.here (L:=[]) (k := .own n) (o := .box 4 [.bool false]));rw [d6] at this;exact this⟩
 ·simp only [Env.get?] at aw
  split at aw
  ·rename_i e;cases aw;obtain rfl:=ae0 e
   exact bq.mono hle
  split at aw
  ·rename_i e;cases aw;obtain rfl:=ae0 e
   simp [ag1];exact .ptr _ 0
  ·cases aw
 ·rintro e c7 w' ⟨x,e0,aj,bj,bL,br,hW,Av,eH⟩
  obtain ⟨ds,tu,e7,eI⟩:=hW.defs;obtain ⟨b2,bU,e1,oy⟩:=Gt ds w' hW.wf (fun d ax=>⟨_,(eI d ax).2.1⟩);have bM:dg w p (hA w' ds) bj:=(hle.trans Av).trans b2;have uW:=aE.trans hle.size eH;have bk:∀ aO,ao.Sub (aS s aO) aj→Kept (aS s nn) (aS s aO) w p (hA w' ds) bj:=fun aO hU=>⟨fun aY dO gi=>(e1 aY (fun hm=>by have:=(eI aY hm).1;simp only at this;omega)).trans (uW.heap aY dO gi),fun b an h=>hU.none (uW.k2 b an h),uW.ly⟩
  cases bL with
  | exit id=>exact br.elim
  | normal=>exact br.elim
  | ret=>
   obtain ⟨bf,M,rfl,iX,aO,en,pf⟩:=br;obtain ⟨nv,hE⟩:=pf.perm iX;have hU:ao.Sub (aS s aO) (aS s M):=by rw [nv];exact yI (k := .own w.heap.size) Lv hE.1
   have xX:=bU.sub hU;obtain ⟨cq,lj,ie,B9⟩:=bU.obj _ _ (pf.get iX);have B':cq = #[.bool true]:=by
    generalize aC:cq.toList=Dc at ie;cases ie with
    | cons v _ vs _ aw aN=>
    cases aN;cases aw;rw [← an' (xs:=cq),aC]
   subst B';have jN:(hA w' ds).cell? ⟨w.heap.size,0,none⟩=some (.bool true):=by rw [jO lj];rfl
   refine ⟨ds,tu,e7,fun d ax=>(eI d ax).2.1,?_⟩;refine leaves_cons (f := 253) (args := #[.pointer (some ⟨w.heap.size,0,none⟩)]) ba (by simp [go_sem]) ?_;refine (Zt w.heap.size _).mono ?_;rintro e j5 mr ⟨rfl,rfl,rfl⟩;have xY:c7.tmps[2]?.getD undef = .pointer (some ⟨w.heap.size,0,none⟩):=by
    have:=hW.env 2 _ bf;rw [ag1] at this;exact E3 this
   exact ⟨.bool true,by simp [results,Tryz.results220, go_sem,jN,xY],by simp,.ret (.bool true),aS s aO,_,.bool _,⟨aO,rfl,hE.2,.inl ⟨rfl,en⟩⟩,bM,bk aO hU,xX⟩
  | panic v x dJ ki aw=>
   obtain ⟨bf,rfl,M,rfl,iX,y,aO,cG,pf⟩:=br;obtain ⟨rest,rfl,Jv⟩:=ki;obtain rfl:=Zp aw;obtain ⟨nv,hE⟩:=pf.perm iX;have hU:ao.Sub (aS s aO) (aS s M):=by rw [nv];exact yI (k := .own w.heap.size) Lv hE.1
   have xX:=bU.sub hU;have dE:=uF bU.lt (.cells #[] 298) True;have a2:=CO (s:=aS s aO) (w:=hA w' ds) (p:=bj) (.cells #[] 298) True;obtain ⟨cq,lj,ie,B9⟩:=bU.obj _ _ (pf.get iX);obtain ⟨bv,rfl⟩:∃ bv,cq = #[bv]:=by
    generalize aC:cq.toList=Dc at ie;cases ie with
    | cons v _ vs _ aw aN=>
    cases aN;exact ⟨v,by rw [← an' (xs:=cq),aC]⟩
   have au:w.heap.size<(hA w' ds).heap.size:=(i9.1 lj).1;have Ca:=(mw (hA w' ds) (.cells #[] 298) w.heap.size au).trans lj;have xY:c7.tmps[2]?.getD undef = .pointer (some ⟨w.heap.size,0,none⟩):=by
    have:=hW.env 2 _ bf;rw [ag1] at this;exact E3 this
   obtain ⟨ea,dj,dQ,m5,tr⟩:=My (bM.trans dE) ((bk aO hU).trans bM.size a2) (z' xX _ True) Ca (g8 _) (fun o aF=>by
    rcases aF with aF|⟨e,-⟩
    ·exact B9 o aF
    ·omega) hE.1 (.bool false)
   have jN:(((hA w' ds).alloc (.cells #[] 298)).setRow w.heap.size #[.bool false]).cell? ⟨w.heap.size,0,none⟩=some (.bool false):=by rw [jO tr];rfl
   refine ⟨ds,tu,e7,fun d ax=>(eI d ax).2.1,?_⟩;refine leaves_cons (f := 253) (args := #[.pointer (some ⟨w.heap.size,0,none⟩)]) ba (by simp [go_sem]) ?_;refine (Zu w.heap.size _ rest bv lj).mono ?_;rintro e j5 mr ⟨rfl,rfl,rfl⟩;have Jw:=HB Jv;simp only [settle,Jw];exact ⟨.bool false,by simp [results,Tryz.results220, go_sem,jN,xY],by simp,.ret (.bool false),aS s aO,_,.bool _,⟨aO,rfl,hE.2,.inr ⟨rfl,cG⟩⟩,ea,dj,dQ⟩
theorem Pk {n:Int} (h:0≤n) (ad:n<18446744073709551616):t7 .u64 n=n:=by
 rw [IntKind.wrap_u64];omega
theorem Zy {n:Nat} (az:n<4294967296):bitsOf .and .u64 (n:Int) 4294967295=some (n:Int):=by
 have h:=u1 (m:=n) (n:=4294967295) af du;have e:n &&& 4294967295=n:=by
  rw [show 4294967295=2^32-1 from rfl,Nat.and_two_pow_sub_one_eq_mod,Nat.mod_eq_of_lt az]
 rw [e] at h;exact h
theorem Pl {n:Nat} (az:n<4294967296):Int.fdiv (n:Int) (2^(min (32:Int).toNat (am7 .u64)))=0:=by
 have:=tJ (m:=n) (c:=32) af;rw [Nat.shiftRight_eq_div_pow,Nat.div_eq_of_lt af] at this;exact this
theorem Zz (n:Nat) (az:n<4294967296):aT d0 278 [.int .u64 1,.int .u64 (n:Int)] (.cw [.int .u64 0,.int .u64 (n:Int)]):=by
 have an:=bD;refine aT.bh ah Tryz.func278 C C fun s I=>?_
 have dm:t7 .u64 (1*(n:Int))=(n:Int):=by rw [Int.one_mul];exact Pk af af
 have l8:t7 .u64 (0*(n:Int))=0:=by rw [Int.zero_mul];rfl
 refine dt ?_;refine aa.bits 1 C C C C C C du ?_;refine fI ?_;refine aa.shr 0 C C C C C C af du ?_;refine fI ?_;refine aa.bits (n:Int) C C C C C C (Zy az) ?_;refine fI ?_;refine aa.shr 0 C C C C C C af (Pl az) ?_;refine bl ?_;refine aa.shr 0 C C C C C C af (by rw [dm];exact Pl az) ?_;refine fI ?_;refine aa.bits 0 C C C C C C (by rw [l8];decide) ?_;refine fI ?_;refine aa.shr 0 C C C C C C af (by rw [l8];decide) ?_;refine bl ?_;refine aa.shr 0 C C C C C C af du ?_;refine ed ?_;exact Fin.cB I C (aQ.of_eq (by rw [dm];rfl))
theorem ZA (n:Nat) (az:n<4294967296):aT d0 258 [.int .u64 1,.int .u64 (n:Int)] (.cw [.int .u64 0,.int .u64 (n:Int)]):=by
 have an:=bD;refine aT.bh ah Tryz.func258 C C fun s I=>?_
 have U:=Zz n az;refine b' ?_;exact bB I
theorem ZB (z:Int) (n m k:Nat) (h:m+k≤n) (aE:k≤m):((t6 m z++t6 (n-m) 0).map a8).take m++(((t6 m z++t6 (n-m) 0).map a8).drop 0).take k++((t6 m z++t6 (n-m) 0).map a8).drop (m+k)=(t6 (m+k) z++t6 (n-(m+k)) 0).map a8:=by
 rw [am6,← ar7,← ar7,← List.map_drop,← ad',← ad'];congr 1;rw [List.take_left' ba,ai7 cV,List.take_replicate,am8 aE,List.replicate_append_replicate];congr 1;rw [List.drop_append,List.drop_eq_nil_of_le ba,d8,af3,aA2];congr 1;omega
theorem ZC (z:Int) (n:Nat) (U:1≤n) (az:n≤1000):bA d0 224 [.aA 1 [.int .i64 z] .clip,.int .i64 (n:Int)] ([]) (fun o K=>∃ b,o = .ret (ee b n n)∧K=[(.own b,.box 3 ((t6 n z).map a8))]):=by
 have an:=bD;refine bA.bh ah Tryz.func224 C C fun s I=>?_
 have hm:=ZA n af;have dm:t7 .u64 (n:Int)=(n:Int):=Pk af af;have jG:t7 .i64 (n:Int)=(n:Int):=dz af af;have hm:aT d0 258 [.int .u64 (t7 .u64 1),.int .u64 (t7 .u64 (n:Int))] (.cw [.int .u64 0,.int .u64 (n:Int)]):=by rw [dm];exact hm
 refine c2 ?_;refine ae.cond C (fun h=>by simp at h;omega) (fun _=>?_);refine c2 ?_;refine aa.rC ah I n C C C C C C C C C C (ae7 (fun z=>some (ag.int .i64 z)) jG) (ae7 (fun z=>some (ag.int .i64 z)) jG) (by show _*8≤_;omega) af (fun b I=>?_);refine fI ?_;have bq:t6 n (ag.int .i64 0)=(t6 n (0:Int)).map a8:=by rw [au0];rfl
 refine aa.HO ah I C C C C C C C C C aW C C C cV cV (fun I=>?_);have A':(t6 n (ag.int .i64 0)).take 0++[ag.int .i64 z]++(t6 n (ag.int .i64 0)).drop (0+[ag.int .i64 z].length)=(t6 1 z++t6 (n-1) 0).map a8:=by
  rw [al4,aA2];simp [a8]
 rw [A'] at I ⊢;refine dG ?_;refine ae.b5 [7] C I (σ:=Nat) (fun m=>[(8,.int .i64 (m:Int))]) (fun m=>[(.own b,.box 3 ((t6 m z++t6 (n-m) 0).map a8))]) (fun m=>1≤m∧m≤n) (fun m=>n-m) 1 ⟨g8 _,U⟩ (cl C) aX ?_;rintro m ⟨nS,NX⟩ I;refine jE ?_;refine aa.pG ah C C C C C C C ?_;refine gr ?_;refine ae.cond C (fun au=>?_) (fun aV=>?_);rotate_left
 ·have aV:m=n:=by simp at aV;omega
  subst aV;have qZ:(t6 m z++t6 (m-m) 0).map a8=(t6 m z).map a8:=by simp
  rw [qZ] at I ⊢;refine c2 ?_;exact Fin.bs I C aJ aX ⟨b,rfl,rfl⟩
 have au:m<n:=by simp at au;omega
 have ht:((t6 m z++t6 (n-m) 0).map a8).length=n:=by simp;omega
 refine dG ?_;refine ae.nf (fun _=>True) ah mixed C (bg.run trivial C ?_);refine bg.HP 3 ah trivial m C C C C C C C C C C C C af af af ?_;refine bg.AT 6 ah trivial m C C C C C C C C C C C af ?_;refine bg.run trivial C ?_;refine bg.Bg 7 ah I (min m (n-m)) C C C C C C C C C C C .here C C (by rw [am6,← ar7];exact BF _) (by rw [ht];omega) (by rw [ht];omega) (fun _ => .inl trivial) (fun I=>?_);rw [ZB z n m (min m (n-m)) af af] at I ⊢;refine bg.run trivial C (bc.done C ?_);refine tC ?_;exact bn.mk (m+min m (n-m)) I ⟨by omega,by omega⟩ (by repeat (first|exact trivial|refine ⟨⟨_,rfl,aJ⟩,?_⟩|refine ⟨⟨_,rfl,aQ.of_eq DH⟩,?_⟩)) aX (by show n-(m+min m (n-m))<n-m;omega)
abbrev pg:=Int×Int×Nat
def s3 (g:Int→Int→List pg) (isLet:Bool) (size:Int):Nat→List Int→List pg
 | _,[]=>[]
 | i,k::r=>g k (if isLet&&i==1 then size+1 else size)++s3 g isLet size (i+1) r
def xZ (p:bT) (n:Int):Bool:=decide (n≥0)&&decide (n<(p.nodes.length:Int))
def oi (p:bT):Nat→Int→Int→List pg
 | 0,n,size=>[(n,size,13)]
 | f+1,n,size=>(n,size,12-f)::(if xZ p n then s3 (oi p f) (decide ((p.nodes.getD n.toNat default).op=9)) size 0 (p.nodes.getD n.toNat default).kids else [])
def Jx (p:bT) (x:pg):Prop:=xZ p x.1=true∧x.2.2≤12
def Cb (p:bT) (next:Bool) (x:pg) (out:List Int):Option (List Int):=
 if pO p x.1 out&&decide (x.2.2≤12) then (if yS p next (p.nodes.getD x.1.toNat default) x.2.1 then some (out.set x.1.toNat x.2.1) else none) else none
def foldI (p:bT) (next:Bool):List pg→List Int→Option (List Int)
 | [],out=>some out
 | x::r,out=>(Cb p next x out).bind (foldI p next r)
theorem Pm (p:bT) (next:Bool):∀ (l r:List pg) (out:List Int),foldI p next (l++r) out=(foldI p next l out).bind (foldI p next r)
  | [],r,out=>rfl
  | x::l,r,out=>by
    rw [aa',foldI,foldI];cases Cb p next x out with
    | none=>rfl
    | some o=>exact Pm p next l r o
theorem Pn (p:bT) (next:Bool) {g:Int→Int→List pg} {h:Int→Int→List Int→Option (List Int)} (av:∀ k s out,foldI p next (g k s) out=h k s out) (isLet:Bool) (size:Int) :
    ∀ (ks:List Int) (i:Nat) (out:List Int),foldI p next (s3 g isLet size i ks) out=lK h isLet size i ks out
  | [],i,out=>rfl
  | k::r,i,out=>by
    rw [s3,lK,Pm,av];cases h k (if isLet&&i==1 then size+1 else size) out with
    | none=>rfl
    | some o=>exact Pn p next av isLet size r (i+1) o
theorem Po (p:bT) (next:Bool):∀ (f:Nat) (n size:Int) (out:List Int),f≤12→foldI p next (oi p f n size) out=visitM p next f n size out
  | 0,n,size,out,_=>by
    rw [oi,foldI,visitM,Cb];rw [f0 ba];rfl
  | f+1,n,size,out,a7=>by
    rw [oi,foldI,visitM,Cb];have ax:decide (((n,size,12-f):pg).2.2≤12)=true:=by simp
    rw [ax,aq5];cases ar:pO p n out with
    | false=>simp
    | true=>
      have fy:xZ p n=true:=by
        unfold pO at ar;unfold xZ;simp only [f8,i8] at ar ⊢;exact ⟨ar.1,ar.2.1⟩
      simp only [ag7,fy];cases az:yS p next (p.nodes.getD n.toNat default) size with
      | false=>simp
      | true=>
        simp only [ag7];exact Pn p next (fun k s o=>Po p next f k s o af) _ _ _ _ _
def Cc (x:pg):ag := .int .i64 x.1
def Cd (x:pg):ag := .agg [.int .i64 x.2.1,.int .i64 (x.2.2:Int)]
def Pp (fv:ag) (p:bT) (dZ:Nat):ag := .func 260 [] [.bw [fv] 0,.bw (cZ p) 0,.ptr dZ 0]
def x0 (fv:ag) (p:bT) (dZ:Nat):dH := .box 306 [Pp fv p dZ]
def ZD {α:Type} (Go:List α→a'→Prop) (fJ:a'→Prop) (fQ:ag→a'→Prop) (rem:List α) (o:eC) (aO:a'):Prop:=
 (o = .ret (.bool true)∧Go rem aO)∨(o = .ret (.bool false)∧fJ aO)∨∃ v,o = .panic v∧fQ v aO
structure Pq (dZ:Nat) (p:bT) (fv:ag) (Go:List pg→a'→Prop) (fJ:a'→Prop) (fQ:ag→a'→Prop):Prop where
 call:∀ x rem K,Go (x::rem) K→dA d0 fv [Cc x,Cd x] K (fun o aO=>(o = .ret (.bool true)∧Jx p x∧Go rem aO)∨(o = .ret (.bool false)∧fJ aO)∨∃ v,o = .panic v∧fQ v aO)
 rK:∀ xs K,Go xs K→∃ R,bo K (.own dZ) (x0 fv p dZ) R
theorem ZE (p:bT) (aF:ga p) (dZ:Nat) (fv:ag) (Go:List pg→a'→Prop) (fJ:a'→Prop) (fQ:ag→a'→Prop) (eG:Pq dZ p fv Go fJ fQ):∀ (f:Nat),f≤12→∀ (n size:Int),(0≤size∧size+f≤100)→∀ (rest:List pg) (K:a'),Go (oi p f n size++rest) K →
  bA d0 260 [.int .i64 n,.agg [.int .i64 size,.int .i64 ((13-f:Nat):Int)],.bw [fv] 0,.bw (cZ p) 0,.ptr dZ 0] K (ZD Go fJ fQ rest):=by
 have an:=bD;intro f
 induction f with
 | zero=>
  intro _ n size cc rest K en;have aB:=eG.call (n,size,13) rest K en;unfold Cc Cd at aB;refine bA.bh ah Tryz.func260 C C fun s I=>?_
  unfold cZ;refine dt ?_;refine aa.gM C C C C C C aB I (aG.all _) ?_ ?_
  ·rintro x aO (⟨_,av,_⟩|⟨⟨⟩,ax⟩|⟨_,⟨⟩,_⟩) I
   ·exact absurd av.2 (by show ¬ (13≤12);omega)
   ·rw [d6] at I ⊢
    refine ed ?_;exact Fin.bs I C aJ (aG.all _) (.inr (.inl ⟨rfl,ax⟩))
  ·rintro x aO (⟨h,_⟩|⟨h,_⟩|⟨v,⟨⟩,aF⟩) I
   ·cases h
   ·cases h
   exact Fin.fi I aJ (aG.jH (aG.all _)) (.inr (.inr ⟨_,rfl,aF⟩))
 | succ f a1=>
  intro a7 n size cc rest K en;have ax:(13-(f+1):Nat)=12-f:=by omega
  rw [ax];rw [oi,aa'] at en;have aB:=eG.call _ _ K en;unfold Cc Cd at aB;refine bA.bh ah Tryz.func260 C C fun s I=>?_
  unfold cZ;refine dt ?_;refine aa.gM C C C C C C aB I (aG.all _) ?_ ?_
  ·rintro x aO (⟨⟨⟩,av,en⟩|⟨⟨⟩,ax⟩|⟨_,⟨⟩,_⟩) I
   ·rw [d6] at I ⊢
    obtain ⟨fy,_⟩:=av;have fy:xZ p n=true:=fy;rw [fy,g6 C] at en;unfold xZ at fy;simp only [f8,i8] at fy;obtain ⟨i,rfl⟩:∃ i:Nat,n=i:=⟨n.toNat,by omega⟩;obtain ⟨x,ab,bL⟩:=b8 (f:=jq) (l:=p.nodes) (j:=i) af;have k6:p.nodes.getD ((i:Int)).toNat default=x:=by rw [ae1,d7,ab];rfl
    rw [k6] at en;have sL:=aF.kids x (d5 ab);unfold jq la bd at bL;refine bl ?_;refine ae.b5 [0,3,4,6,21,22] C I (σ:=Nat×a') (fun q=>[(23,.int .i64 (q.1:Int))]) (fun q=>q.2) (fun q=>q.1≤x.kids.length∧Go (s3 (oi p f) (decide (x.op=9)) size q.1 (x.kids.drop q.1)++rest) q.2) (fun q=>x.kids.length-q.1) (0,aO) ⟨g7 _,en⟩ (cl C) (aG.all _) ?_;rintro ⟨j,BO⟩ ⟨aL,zD⟩ I;simp only at aL zD I ⊢;refine b7 ?_;refine ae.cond C (fun au=>?_) (fun aV=>?_);rotate_left
    ·have aV:j=x.kids.length:=by simp at aV;omega
     subst aV;rw [eD (g8 _),s3,d8] at zD;refine ez ?_;exact Fin.bs I C aJ (aG.all _) (.inl ⟨rfl,zD⟩)
    have au:j<x.kids.length:=by simpa using au
    obtain ⟨k,aE,eH⟩:=b8 (f:=a8) au;rw [drop_cons aE,s3,ah0] at zD;obtain ⟨R,pf⟩:=eG.rK _ _ zD;have c3:=dA.fx (first:=[]) (args:=[.int .i64 k,.agg [.int .i64 (if decide (x.op=9)&&j==1 then size+1 else size),.int .i64 ((13-f:Nat):Int)]]) (cap:=[.bw [fv] 0,.bw (cZ p) 0,.ptr dZ 0]) (a1 af _ _ va _ _ zD);have dm:t7 .i64 (((12-f:Nat):Int)+1)=((13-f:Nat):Int):=by rw [dz af af];omega
    have E5:((j:Int)==1)=(j==1):=by rw [af7];simp;omega
    have pd:decide (x.op=9)=(x.op==9):=rfl;rw [pd,← dm] at c3;unfold cZ at c3;unfold x0 Pp cZ at pf;unfold a8 at eH
    repeat (first|(refine wT I ?_;clear I;intro I)|refine aa.eb ah I rfl rfl rfl rfl rfl rfl rfl (fun cH I=>?_))
    cases kv:(x.op==9) with
    | false=>
     rw [kv,f9] at c3;simp only [af8,ah'] at c3;refine bl ?_;refine aa.ey ah I C C C C C C (.there pf) b1 ?_;refine cC I ?_;intro I;refine aa.gM C C C C C C c3 I (aG.there (aG.all BO)) ?_ ?_
     ·rintro _ iO (⟨⟨⟩,Ce⟩|⟨⟨⟩,ax⟩|⟨_,⟨⟩,_⟩) I
      ·refine bl ?_
       exact bn.mk (j+1,iO) I ⟨au,by show Go (s3 (oi p f) (decide (x.op=9)) size (j+1) (as4 (j+1) x.kids)++rest) iO;rw [pd,kv];exact Ce⟩ cj (aG.jH (aG.all _)) qH
      ·refine bl ?_
       exact Fin.bs I C aJ (aG.jH (aG.all _)) (.inr (.inl ⟨rfl,ax⟩))
     ·rintro x aO (⟨h,_⟩|⟨h,_⟩|⟨v,⟨⟩,aF⟩) I
      ·cases h
      ·cases h
      exact Fin.fi I aJ (aG.jH (aG.all _)) (.inr (.inr ⟨_,rfl,aF⟩))
    | true=>
     rw [kv,f5] at c3;refine gr ?_;cases zd:(j==1) with
     | false=>
      rw [zd] at c3 E5;simp only [af8,ah'] at c3;refine ae.cond C (fun h=>by rw [E5] at h;cases h) (fun _=>?_);refine dG ?_;refine aa.ey ah I C C C C C C (.there pf) b1 ?_;refine cC I ?_;intro I;refine aa.gM C C C C C C c3 I (aG.there (aG.all BO)) ?_ ?_
      ·rintro _ iO (⟨⟨⟩,Ce⟩|⟨⟨⟩,ax⟩|⟨_,⟨⟩,_⟩) I
       ·refine bl ?_
        exact bn.mk (j+1,iO) I ⟨au,by show Go (s3 (oi p f) (decide (x.op=9)) size (j+1) (as4 (j+1) x.kids)++rest) iO;rw [pd,kv];exact Ce⟩ cj (aG.jH (aG.all _)) qH
       ·refine bl ?_
        exact Fin.bs I C aJ (aG.jH (aG.all _)) (.inr (.inl ⟨rfl,ax⟩))
      ·rintro x aO (⟨h,_⟩|⟨h,_⟩|⟨v,⟨⟩,aF⟩) I
       ·cases h
       ·cases h
       exact Fin.fi I aJ (aG.jH (aG.all _)) (.inr (.inr ⟨_,rfl,aF⟩))
     | true=>
      rw [zd] at c3 E5;simp only [ag7] at c3;have jG:t7 .i64 (size+1)=size+1:=dz af af;rw [← jG] at c3;refine ae.cond C (fun _=>?_) (fun h=>by rw [E5] at h;cases h);refine cC I ?_;intro I;refine aa.ey ah I C C C C C C (.there pf) b1 ?_;refine cC I ?_;intro I;refine aa.gM C C C C C C c3 I (aG.there (aG.all BO)) ?_ ?_
      ·rintro _ iO (⟨⟨⟩,Ce⟩|⟨⟨⟩,ax⟩|⟨_,⟨⟩,_⟩) I
       ·refine bl ?_
        exact bn.mk (j+1,iO) I ⟨au,by show Go (s3 (oi p f) (decide (x.op=9)) size (j+1) (as4 (j+1) x.kids)++rest) iO;rw [pd,kv];exact Ce⟩ cj (aG.jH (aG.all _)) qH
       ·refine bl ?_
        exact Fin.bs I C aJ (aG.jH (aG.all _)) (.inr (.inl ⟨rfl,ax⟩))
      ·rintro x aO (⟨h,_⟩|⟨h,_⟩|⟨v,⟨⟩,aF⟩) I
       ·cases h
       ·cases h
       exact Fin.fi I aJ (aG.jH (aG.all _)) (.inr (.inr ⟨_,rfl,aF⟩))
   ·rw [d6] at I ⊢
    refine ed ?_;exact Fin.bs I C aJ (aG.all _) (.inr (.inl ⟨rfl,ax⟩))
  ·rintro x aO (⟨h,_⟩|⟨h,_⟩|⟨v,⟨⟩,aF⟩) I
   ·cases h
   ·cases h
   exact Fin.fi I aJ (aG.jH (aG.all _)) (.inr (.inr ⟨_,rfl,aF⟩))
theorem ZF (p:bT) (aF:ga p) (n size:Int) (cc:0≤size∧size+12≤100):HJ d0 259 [] [.bw (cZ p) 0,.bw [.int .i64 n] 0,.bw [.int .i64 size,.int .i64 1] 0] [] Cc Cd (Jx p) (oi p 12 n size):=by
 intro l Go fJ fQ pF K bk;have eG:∀ dZ,Pq dZ p (l3 l) (fun xs K=>∃ aO,K=aO++[(.own dZ,x0 (l3 l) p dZ)]∧Go xs aO) (fun K=>∃ aO,K=aO++[(.own dZ,x0 (l3 l) p dZ)]∧fJ aO) (fun v K=>∃ aO,K=aO++[(.own dZ,x0 (l3 l) p dZ)]∧fQ v aO):=fun dZ=>by
  refine ⟨fun x rem K ⟨aO,e,av⟩=>?_,fun xs K ⟨aO,e,_⟩=>⟨aO++[],by subst e;exact bo.app aO .here⟩⟩;subst e;refine dA.frame (R:=[(.own dZ,x0 (l3 l) p dZ)]) (pF x rem aO av) (aG.jH (aG.dB aO)) ?_;rintro o lR (⟨rfl,U,h⟩|⟨rfl,h⟩|⟨v,rfl,h⟩)
  ·exact .inl ⟨rfl,U,lR,rfl,h⟩
  ·exact .inr (.inl ⟨rfl,lR,rfl,h⟩)
  ·exact .inr (.inr ⟨v,rfl,lR,rfl,h⟩)
 have hw:=fun dZ=>dA.fx (first:=[]) (args:=[.int .i64 n,.agg [.int .i64 size,.int .i64 1]]) (cap:=[.bw [l3 l] 0,.bw (cZ p) 0,.ptr dZ 0]) (ZE p aF dZ (l3 l) _ _ _ (eG dZ) 12 (g8 _) n size af [] (K++[(.own dZ,x0 (l3 l) p dZ)]) ⟨K,rfl,by rw [d6];exact bk⟩)
 refine bA.bh ah Tryz.func259 C C fun s I=>?_
 rw [d8] at I ⊢
 repeat (first|(refine LA I ?_;clear I;intro I)|refine aa.eb ah I rfl rfl rfl rfl rfl rfl rfl (fun cH I=>?_))
 refine aa.gM C C C C C C (hw cH) I (aG.iA (aw8 _ _).symm) ?_ ?_
 ·rintro x _ (⟨⟨⟩,lR,rfl,h⟩|⟨⟨⟩,lR,rfl,h⟩|⟨_,⟨⟩,_⟩) I
  all_goals rw [d6] at I ⊢
  ·refine gr ?_
   exact Fin.bs I C aJ (aG.jH (aG.dB lR)) (.inl ⟨rfl,.inl h⟩)
  ·refine gr ?_
   exact Fin.bs I C aJ (aG.jH (aG.dB lR)) (.inl ⟨rfl,.inr h⟩)
 ·rintro x _ (⟨h,_⟩|⟨h,_⟩|⟨v,⟨⟩,lR,rfl,h⟩) I
  ·cases h
  ·cases h
  rw [d6] at I ⊢;exact Fin.fi I aJ (aG.jH (aG.dB lR)) (.inr ⟨_,rfl,h⟩)
theorem ZG (p:bT) (n size d:Int):aT d0 226 [cW p,.int .i64 n,.agg [.int .i64 size,.int .i64 d]] (.func 259 [] [.bw (cZ p) 0,.bw [.int .i64 n] 0,.bw [.int .i64 size,.int .i64 d] 0]):=by
 have an:=bD;refine aT.bh ah Tryz.func226 C C fun s I=>?_
 unfold cW cZ;refine gX ?_;exact bB I
theorem Ps:qf d0 277 "consort/bind.many" 335 := Dy gj
theorem Pt:qf d0 279 "consort/bind.many" 336 := Dy gj
theorem Pu (p:bT) (x:i'):(x.op=5∧xy x.op = .iface 279 (.agg [])∧su p x=some (p.ef.getD x.n.toNat 0))∨(∃ m,xy x.op=xx m∧su p x=some m)∨(xy x.op = .ou∧su p x=none):=by
 unfold xy su;by_cases U:x.op=5
 ·left;rw [g6 U,g6 U];exact ⟨U,rfl,rfl⟩
 rw [f0 U,f0 U];right;by_cases ad:x.op=1∨x.op=2∨x.op=3∨x.op=6∨x.op=18
 ·left;rw [g6 ad,g6 ad];exact ⟨0,rfl,rfl⟩
 rw [f0 ad,f0 ad];by_cases al:x.op=4∨x.op=8∨x.op=17
 ·left;rw [g6 al,g6 al];exact ⟨1,rfl,rfl⟩
 rw [f0 al,f0 al];by_cases bf:x.op=7∨x.op=9∨x.op=11∨x.op=12∨x.op=13∨x.op=14∨x.op=15∨x.op=16
 ·left;rw [g6 bf,g6 bf];exact ⟨2,rfl,rfl⟩
 rw [f0 bf,f0 bf];by_cases bE:x.op=10
 ·left;rw [g6 bE,g6 bE];exact ⟨3,rfl,rfl⟩
 right;rw [f0 bE,f0 bE];exact ⟨rfl,rfl⟩
theorem vD {m l:Int}:((some m==some l)=true)↔l=m:=by
 rw [al6,Option.some.injEq];exact eq_comm
def gv (db b:Nat) (out:List Int):a':=[(.own db,.box 23 [ee b out.length out.length]),(.own b,.box 3 (out.map a8))]
def ZH (db b:Nat) (len:Nat) (r:Option (List Int)) (o:eC) (K:a'):Prop:=
 ∃ out,out.length=len∧K=gv db b out∧((o = .ret (.cw [])∧r=some out)∨(o = .panic tT∧r=none))
theorem Pv (p:bT) (aF:ga p) (adt:p.ef.all (fun n=>decide (n≥1)&&decide (n≤3))=true) (db b:Nat) (out:List Int) (fZ:out.length=p.nodes.length) (nO:p.nodes.length≤120) (n size:Int) (next:Bool) (cc:0≤size∧size≤50) :
  dA d0 (.func 225 [] [.bw (cZ p) 0,.ptr db 0]) [.int .i64 n,.int .i64 size,.bool next] (gv db b out) (ZH db b p.nodes.length (visitM p next 12 n size out)):=by
 have an:=bD;have lj:=ZG p n size 1;have oI:=ZF p aF n size af;refine dA.fx (first:=[]) (cap:=[.bw (cZ p) 0,.ptr db 0]) ?_;refine bA.bh ah Tryz.func225 C C fun s I=>?_
 rw [← Po p next 12 n size out (g8 _)];unfold cW at lj;unfold cZ at *;unfold gv at I;refine b' ?_;refine ae.MI I C du du oI .nil (fun rem K=>∃ bR,bR.length=p.nodes.length∧K=gv db b bR∧foldI p next (oi p 12 n size) out=foldI p next rem bR) (fun _ _=>False) (fun v K=>v=tT∧foldI p next (oi p 12 n size) out=none∧∃ bR,bR.length=p.nodes.length∧K=gv db b bR) ⟨out,fZ,rfl,rfl⟩ ?_ ?_ (fun _ _ h=>h.elim) ?_
 ·rintro s₁ x rem K ⟨bR,eT,rfl,aq⟩ I
  obtain ⟨Jy,xs,Jz⟩:=x;unfold Cc Cd;unfold gv at I ⊢;rw [foldI,Cb] at aq;simp only at aq;refine et ?_;by_cases g1:Jy≥0;rotate_left
  ·refine aa.dh 22 C (ab' g1) ?_
   refine ed ?_;refine aa.bX C C C C C (hc _) I .nil ?_ ?_;rotate_left
   ·rintro _ _ ⟨rfl,h⟩ I
    obtain ⟨az,rfl⟩:=gQ h;rw [d8] at I ⊢;exact At.mk (gv db b bR) I (aG.all _) ⟨rfl,(by rw [aq];simp [pO,g1]),bR,eT,rfl⟩
   rintro _ _ ⟨rfl,h⟩ I;obtain ⟨al,rfl⟩:=gP h;rw [d8] at I ⊢;exact absurd al ba
  obtain ⟨i,rfl⟩:∃ i:Nat,Jy=i:=⟨Jy.toNat,by omega⟩;refine aa.dY 22 C (i7 g1) ?_;refine dU ?_;by_cases g2:i<p.nodes.length;rotate_left
  ·refine aa.dh 29 C cV ?_
   refine ed ?_;refine aa.bX C C C C C (hc _) I .nil ?_ ?_;rotate_left
   ·rintro _ _ ⟨rfl,h⟩ I
    obtain ⟨az,rfl⟩:=gQ h;rw [d8] at I ⊢;exact At.mk (gv db b bR) I (aG.all _) ⟨rfl,(by rw [aq];simp [pO,g2]),bR,eT,rfl⟩
   rintro _ _ ⟨rfl,h⟩ I;obtain ⟨al,rfl⟩:=gP h;rw [d8] at I ⊢;exact absurd al ba
  refine aa.dY 29 C cV ?_;obtain ⟨z,bG⟩:∃ z,bR[i]? = some z:=⟨_,f7 af⟩;have Iz:bR.getD i 0=z:=by rw [d7,bG];rfl
  have n3:(bR.map a8)[i*1]? = some (.int .i64 z):=by rw [ag',ae4,bG];rfl
  obtain ⟨x,ab,bL⟩:=b8 (f:=jq) (l:=p.nodes) (j:=i) g2;have Is:p.nodes.getD i default=x:=by rw [d7,ab];rfl
  rw [ae1,Is] at aq;refine cC I ?_;intro I;refine aa.ej ah i C C C C C C C C C C af ?_;refine aa.jd ah I C C C C C C aW C n3 ?_;refine dU ?_;have dn:pO p (i:Int) bR=decide (z<0):=by
   unfold pO;rw [ae1,Iz,i7 g1,show decide ((i:Int)<(p.nodes.length:Int))=true by simp;omega];rfl
  rw [dn] at aq;by_cases g3:z<0;rotate_left
  ·refine aa.dh 36 C (ab' g3) ?_
   refine ed ?_;refine aa.bX C C C C C (hc _) I .nil ?_ ?_;rotate_left
   ·rintro _ _ ⟨rfl,h⟩ I
    obtain ⟨az,rfl⟩:=gQ h;rw [d8] at I ⊢;exact At.mk (gv db b bR) I (aG.all _) ⟨rfl,(by rw [aq];simp [g3]),bR,eT,rfl⟩
   rintro _ _ ⟨rfl,h⟩ I;obtain ⟨al,rfl⟩:=gP h;rw [d8] at I ⊢;exact absurd al ba
  refine aa.dY 36 C (i7 g3) ?_;rw [i7 g3,f5] at aq;refine dU ?_;refine aa.bX C C C C C (hc _) I .nil ?_ ?_;rotate_left
  ·rintro _ _ ⟨rfl,h⟩ I
   obtain ⟨az,rfl⟩:=gQ h;rw [d8] at I ⊢;exact At.mk (gv db b bR) I (aG.all _) ⟨rfl,(by rw [aq,show decide (Jz≤12)=false from (by simp at az ⊢;omega)];simp),bR,eT,rfl⟩
  rintro _ _ ⟨rfl,h⟩ I;obtain ⟨al,rfl⟩:=gP h;rw [d8] at I ⊢;have g4:Jz≤12:=by simp at al;omega
  rw [i7 g4,g6 C] at aq;have E6:Jx p ((i:Int),xs,Jz):=⟨by unfold xZ;simp;omega,g4⟩;have wj:eM (i*1) [.int .i64 xs] (bR.map a8)=(bR.set i xs).map a8:=by
   rw [mQ,ag',al'];rfl
  refine cC I ?_;intro I;refine aa.ej ah i C C C C C C C C C C af ?_;refine aa.hQ ah I _ C C C C C C C C C aW (by rw [d9];show i*1+1≤_;omega) wj (fun I=>?_);have mF:(bR.set i xs).length=p.nodes.length:=by rw [af1];exact eT
  have oV:=Zf p aF x xs;have vE:=Xu x.op;unfold cW cZ jq la bd at oV;unfold jq la bd at bL;unfold yS at aq;cases jn:np p x xs with
  | false=>
   rw [jn] at oV;rw [jn,f9,f0 ba] at aq;refine et ?_;refine aa.bX C C C C C (hc _) I .nil ?_ ?_;rotate_left
   ·rintro _ _ ⟨rfl,h⟩ I
    obtain ⟨az,rfl⟩:=gQ h;rw [d8] at I ⊢;exact At.mk (gv db b (bR.set i xs)) I (by simp only [gv,af1];exact aX) ⟨rfl,aq,(bR.set i xs),mF,rfl⟩
   rintro _ _ ⟨rfl,h⟩ I;obtain ⟨bf,rfl⟩:=gP h;rw [d8] at I ⊢;exact absurd bf ba
  | true=>
  rw [jn] at oV;rw [jn,f5] at aq;cases next with
  | true=>
   rw [ak3,f5] at aq;refine et ?_;refine aa.bX C C C C C (hc _) I .nil ?_ ?_;rotate_left
   ·rintro _ _ ⟨rfl,h⟩ I
    obtain ⟨az,rfl⟩:=gQ h;rw [d8] at I ⊢;exact At.mk (gv db b (bR.set i xs)) I (by simp only [gv,af1];exact aX) ⟨rfl,(absurd az ba),(bR.set i xs),mF,rfl⟩
   rintro _ _ ⟨rfl,h⟩ I;obtain ⟨bf,rfl⟩:=gP h;rw [d8] at I ⊢;rcases Pu p x with ⟨bE,r2,kc⟩|⟨m,r2,kc⟩|⟨r2,kc⟩
   ·rw [r2] at vE
    rw [kc] at aq;have aL:0≤x.n∧x.n<(p.ef.length:Int):=by
     simpa [np,bE] using jn
    obtain ⟨k,aE⟩:∃ k:Nat,x.n=k:=⟨x.n.toNat,by omega⟩;have iV:=N0 p x k (p.ef.getD x.n.toNat 0) aE OS;unfold cW cZ jq la bd at iV;refine b' ?_;refine aK.sB C C C C C C Pt iV ?_;refine jF ?_;refine aK.bX C C C C C C (hc _) I .nil ?_ ?_;rotate_left
    ·rintro _ _ ⟨rfl,h⟩ I
     obtain ⟨az,rfl⟩:=gQ h;rw [d8] at I ⊢;rw [d9] at az;refine At.mk (gv db b (bR.set i xs)) I (by simp only [gv,af1];exact aX) ⟨rfl,?_,_,mF,rfl⟩;rw [f0 (fun e=>absurd (vD.mp e) sF)] at aq;exact aq
    rintro _ _ ⟨rfl,h⟩ I;obtain ⟨az,rfl⟩:=gP h;rw [d8] at I ⊢;rw [d9] at az;rw [g6 (vD.mpr sF)] at aq;refine gx ?_;exact At.mk (gv db b (bR.set i xs)) I (by simp only [gv,af1];exact aX) ⟨E6,_,mF,rfl,aq⟩
   ·rw [r2] at vE
    rw [kc] at aq;unfold xx at vE;have iV:=NZ m p x;unfold cW cZ jq la bd at iV;refine b' ?_;refine aK.sB C C C C C C Ps iV ?_;refine jF ?_;refine aK.bX C C C C C C (hc _) I .nil ?_ ?_;rotate_left
    ·rintro _ _ ⟨rfl,h⟩ I
     obtain ⟨az,rfl⟩:=gQ h;rw [d8] at I ⊢;rw [d9] at az;refine At.mk (gv db b (bR.set i xs)) I (by simp only [gv,af1];exact aX) ⟨rfl,?_,_,mF,rfl⟩;rw [f0 (fun e=>absurd (vD.mp e) sF)] at aq;exact aq
    rintro _ _ ⟨rfl,h⟩ I;obtain ⟨az,rfl⟩:=gP h;rw [d8] at I ⊢;rw [d9] at az;rw [g6 (vD.mpr sF)] at aq;refine gx ?_;exact At.mk (gv db b (bR.set i xs)) I (by simp only [gv,af1];exact aX) ⟨E6,_,mF,rfl,aq⟩
   ·rw [r2] at vE
    rw [kc] at aq;have aq:foldI p true (oi p 12 n size) out=none:=aq;refine b' ?_;refine aa.bX C C C C C (hc _) I .nil ?_ ?_;rotate_left
    ·rintro _ _ ⟨rfl,h⟩ I
     obtain ⟨az,rfl⟩:=gQ h;rw [d8] at I ⊢;exact At.mk (gv db b (bR.set i xs)) I (by simp only [gv,af1];exact aX) ⟨rfl,aq,(bR.set i xs),mF,rfl⟩
    rintro _ _ ⟨rfl,h⟩ I;obtain ⟨bE,rfl⟩:=gP h;rw [d8] at I ⊢;exact absurd bE ba
  | false=>
   rw [ag6] at aq;refine et ?_;refine aa.bX C C C C C (hc _) I .nil ?_ ?_;rotate_left
   ·rintro _ _ ⟨rfl,h⟩ I
    obtain ⟨az,rfl⟩:=gQ h;rw [d8] at I ⊢;exact At.mk (gv db b (bR.set i xs)) I (by simp only [gv,af1];exact aX) ⟨rfl,(by rw [show decide (x.op≠18)=false by simpa using az,f9,f0 ba] at aq;exact aq),(bR.set i xs),mF,rfl⟩
   rintro _ _ ⟨rfl,h⟩ I;obtain ⟨bf,rfl⟩:=gP h;rw [d8] at I ⊢;rw [show decide (x.op≠18)=true by simpa using bf,f5] at aq;rcases Pu p x with ⟨bE,r2,kc⟩|⟨m,r2,kc⟩|⟨r2,kc⟩
   ·rw [r2] at vE
    rw [kc] at aq;have aL:0≤x.n∧x.n<(p.ef.length:Int):=by
     simpa [np,bE] using jn
    obtain ⟨k,aE⟩:∃ k:Nat,x.n=k:=⟨x.n.toNat,by omega⟩;have iV:=N0 p x k (p.ef.getD x.n.toNat 0) aE OS;unfold cW cZ jq la bd at iV;refine b' ?_;refine aK.sB C C C C C C Pt iV ?_;refine jF ?_;refine aK.bX C C C C C C (hc _) I .nil ?_ ?_;rotate_left
    ·rintro _ _ ⟨rfl,h⟩ I
     obtain ⟨az,rfl⟩:=gQ h;rw [d8] at I ⊢;rw [d9] at az;refine At.mk (gv db b (bR.set i xs)) I (by simp only [gv,af1];exact aX) ⟨rfl,?_,_,mF,rfl⟩;rw [f0 (fun e=>absurd (vD.mp e) sF)] at aq;exact aq
    rintro _ _ ⟨rfl,h⟩ I;obtain ⟨az,rfl⟩:=gP h;rw [d8] at I ⊢;rw [d9] at az;rw [g6 (vD.mpr sF)] at aq;refine gx ?_;exact At.mk (gv db b (bR.set i xs)) I (by simp only [gv,af1];exact aX) ⟨E6,_,mF,rfl,aq⟩
   ·rw [r2] at vE
    rw [kc] at aq;unfold xx at vE;have iV:=NZ m p x;unfold cW cZ jq la bd at iV;refine b' ?_;refine aK.sB C C C C C C Ps iV ?_;refine jF ?_;refine aK.bX C C C C C C (hc _) I .nil ?_ ?_;rotate_left
    ·rintro _ _ ⟨rfl,h⟩ I
     obtain ⟨az,rfl⟩:=gQ h;rw [d8] at I ⊢;rw [d9] at az;refine At.mk (gv db b (bR.set i xs)) I (by simp only [gv,af1];exact aX) ⟨rfl,?_,_,mF,rfl⟩;rw [f0 (fun e=>absurd (vD.mp e) sF)] at aq;exact aq
    rintro _ _ ⟨rfl,h⟩ I;obtain ⟨az,rfl⟩:=gP h;rw [d8] at I ⊢;rw [d9] at az;rw [g6 (vD.mpr sF)] at aq;refine gx ?_;exact At.mk (gv db b (bR.set i xs)) I (by simp only [gv,af1];exact aX) ⟨E6,_,mF,rfl,aq⟩
   ·rw [r2] at vE
    rw [kc] at aq;have aq:foldI p false (oi p 12 n size) out=none:=aq;refine b' ?_;refine aa.bX C C C C C (hc _) I .nil ?_ ?_;rotate_left
    ·rintro _ _ ⟨rfl,h⟩ I
     obtain ⟨az,rfl⟩:=gQ h;rw [d8] at I ⊢;exact At.mk (gv db b (bR.set i xs)) I (by simp only [gv,af1];exact aX) ⟨rfl,aq,(bR.set i xs),mF,rfl⟩
    rintro _ _ ⟨rfl,h⟩ I;obtain ⟨bE,rfl⟩:=gP h;rw [d8] at I ⊢;exact absurd bE ba
 ·rintro K ⟨bR,eT,rfl,aq⟩ I
  rw [foldI] at aq;refine gx ?_;exact Fin.bs I C aJ (aG.all _) ⟨bR,eT,rfl,.inl ⟨rfl,aq⟩⟩
 ·rintro v K ⟨rfl,aq,bR,eT,rfl⟩ I
  exact Fin.fi I aJ (aG.all _) ⟨bR,eT,rfl,.inr ⟨rfl,aq⟩⟩
def ZI (p:bT) (db:Nat) (o:eC) (K:a'):Prop:=
 (o = .ret (.cw [])∧∃ b out,out.length=p.nodes.length∧n0 p=some out∧K=gv db b out)∨(o = .panic tT∧n0 p=none∧∃ v R,K=(.own db,.box 23 [v])::R)
theorem ZJ (p:bT) (aF:ga p) (db:Nat) (v0:ag) :
  dA d0 (.func 221 [] [.bw (cZ p) 0,.ptr db 0]) [] [(.own db,.box 23 [v0])] (ZI p db):=by
 have an:=bD;have hI:=Xt p aF;have iK:=aF.ef;have ht:=aF.Eg;have nO:=aF.nodes;refine dA.fx (first:=[]) (cap:=[.bw (cZ p) 0,.ptr db 0]) ?_;refine bA.bh ah Tryz.func221 C C fun s I=>?_
 have ui:=No p aF;unfold cW at *;unfold cZ bd at *;have ck:n0 p=n0 p:=rfl
 conv at ck=>rhs;unfold n0
 refine jE ?_;refine aa.bX C C C C C hI I .nil ?_ ?_;rotate_left
 ·rintro _ _ ⟨rfl,h⟩ I
  obtain ⟨az,rfl⟩:=gQ h;rw [d8] at I ⊢;exact Fin.fi I aJ (aG.all _) (.inr ⟨rfl,by rw [ck,az];rfl,_,_,rfl⟩)
 rintro _ _ ⟨rfl,h⟩ I;obtain ⟨cy,rfl⟩:=gP h;rw [d8] at I ⊢;rw [cy,f5] at ck;have oc:=Hh cy;have ZK:(fL 0 p.cm).length<bC:=by have h:(fL 0 p.cm).length≤40:=oc.bp;omega
 have ui:=ui ZK;refine fI ?_;by_cases g1:p.ef.length≤8;rotate_left
 ·refine aa.dh 14 C cV ?_
  refine ed ?_;refine aa.bX C C C C C (hc _) I .nil ?_ ?_;rotate_left
  ·rintro _ _ ⟨rfl,h⟩ I
   obtain ⟨az,rfl⟩:=gQ h;rw [d8] at I ⊢;exact Fin.fi I aJ (aG.all _) (.inr ⟨rfl,(by rw [ck];simp [rz,g1]),_,_,rfl⟩)
  rintro _ _ ⟨rfl,h⟩ I;obtain ⟨U,rfl⟩:=gP h;rw [d8] at I ⊢;exact absurd U ba
 refine aa.dY 14 C cV ?_;refine dU ?_;by_cases g2:p.methods.length≤16;rotate_left
 ·refine aa.dh 20 C cV ?_
  refine ed ?_;refine aa.bX C C C C C (hc _) I .nil ?_ ?_;rotate_left
  ·rintro _ _ ⟨rfl,h⟩ I
   obtain ⟨az,rfl⟩:=gQ h;rw [d8] at I ⊢;exact Fin.fi I aJ (aG.all _) (.inr ⟨rfl,(by rw [ck];simp [rz,g2]),_,_,rfl⟩)
  rintro _ _ ⟨rfl,h⟩ I;obtain ⟨U,rfl⟩:=gP h;rw [d8] at I ⊢;exact absurd U ba
 refine aa.dY 20 C cV ?_;refine dU ?_;by_cases g3:p.nodes.length≥1;rotate_left
 ·refine aa.dh 26 C cV ?_
  refine ed ?_;refine aa.bX C C C C C (hc _) I .nil ?_ ?_;rotate_left
  ·rintro _ _ ⟨rfl,h⟩ I
   obtain ⟨az,rfl⟩:=gQ h;rw [d8] at I ⊢;exact Fin.fi I aJ (aG.all _) (.inr ⟨rfl,(by rw [ck];simp [rz,show ¬ 1≤p.nodes.length by omega]),_,_,rfl⟩)
  rintro _ _ ⟨rfl,h⟩ I;obtain ⟨U,rfl⟩:=gP h;rw [d8] at I ⊢;exact absurd U ba
 refine aa.dY 26 C cV ?_;refine dU ?_;refine aa.bX C C C C C (hc _) I .nil ?_ ?_;rotate_left
 ·rintro _ _ ⟨rfl,h⟩ I
  obtain ⟨az,rfl⟩:=gQ h;rw [d8] at I ⊢;exact Fin.fi I aJ (aG.all _) (.inr ⟨rfl,(by rw [ck];simp at az;simp [rz,show ¬ p.nodes.length≤120 by omega]),_,_,rfl⟩)
 rintro _ _ ⟨rfl,h⟩ I;obtain ⟨g4,rfl⟩:=gP h;rw [d8] at I ⊢;have g4:p.nodes.length≤120:=by simp at g4;omega
 have ZL:rz p=p.ef.all (fun n=>decide (n≥1)&&decide (n≤3)):=by
  unfold rz;rw [i7 g1,i7 g2,i7 g3,i7 g4];rfl
 rw [ZL] at ck;refine bl ?_;refine ae.b5 [0,1,34,35] C I (σ:=Nat) (fun j=>[(36,.int .i64 (j:Int))]) (fun _=>[(.own db,.box 23 [v0])]) (fun j=>j≤p.ef.length∧p.ef.all (fun n=>decide (n≥1)&&decide (n≤3))=(p.ef.drop j).all (fun n=>decide (n≥1)&&decide (n≤3))) (fun j=>p.ef.length-j) 0 ⟨g7 _,rfl⟩ (cl C) aX ?_;rintro j ⟨aL,aq⟩ I
 try simp only at aL aq I ⊢
 refine b7 ?_;refine ae.cond C (fun au=>?_) (fun aV=>?_)
 ·have au:j<p.ef.length:=by simpa using au
  obtain ⟨x,ab,bL⟩:=b8 (f:=a8) au;rw [drop_cons ab,ak6] at aq;unfold a8 at bL;refine dG ?_;by_cases g5:x≥1;rotate_left
  ·refine aa.dh 42 C (ab' g5) ?_
   refine ed ?_;refine aa.bX C C C C C (hc _) I .nil ?_ ?_;rotate_left
   ·rintro _ _ ⟨rfl,h⟩ I
    obtain ⟨az,rfl⟩:=gQ h;rw [d8] at I ⊢;exact Fin.fi I aJ (aG.all _) (.inr ⟨rfl,(by rw [ck,aq,ab' g5];rfl),_,_,rfl⟩)
   rintro _ _ ⟨rfl,h⟩ I;obtain ⟨bE,rfl⟩:=gP h;rw [d8] at I ⊢;exact absurd bE ba
  refine aa.dY 42 C (i7 g5) ?_;rw [i7 g5,f5] at aq;refine dU ?_;refine aa.bX C C C C C (hc _) I .nil ?_ ?_;rotate_left
  ·rintro _ _ ⟨rfl,h⟩ I
   obtain ⟨az,rfl⟩:=gQ h;rw [d8] at I ⊢;exact Fin.fi I aJ (aG.all _) (.inr ⟨rfl,(by rw [ck,aq,show decide (x≤3)=false from az];rfl),_,_,rfl⟩)
  rintro _ _ ⟨rfl,h⟩ I;obtain ⟨bE,rfl⟩:=gP h;rw [d8] at I ⊢;rw [show decide (x≤3)=true from bE,f5] at aq;refine fj ?_;exact bn.mk (j+1) I ⟨au,aq⟩ cj aX (by show p.ef.length-(j+1)<p.ef.length-j;omega)
 have aV:j=p.ef.length:=by simp at aV;omega
 subst aV;rw [eD (g8 _),ao3] at aq;have uj:=aq;rw [aq,g6 C] at ck;have ZM:=ZC (-1) p.nodes.length g3 af;have hlen:((p.nodes.map jq).length:Int)=(p.nodes.length:Int):=by rw [d9]
 refine bl ?_;refine aa.bX C C C C (by rw [d9];rfl) ZM I .nil ?_ (fun _ _ ⟨_,h,_⟩ _=>by cases h);rintro _ _ ⟨b,⟨⟩,rfl⟩ I;rw [aa',d8] at I ⊢;refine LC I ?_;intro I;refine ae.b5 [0,1,4,5,57,58] C I (σ:=Nat×List Int) (fun q=>[(59,.int .i64 (q.1:Int))]) (fun q=>gv db b q.2) (fun q=>q.1≤p.methods.length∧q.2.length=p.nodes.length∧nZ p p.methods (t6 p.nodes.length (-1))=nZ p (p.methods.drop q.1) q.2) (fun q=>p.methods.length-q.1) (0,t6 p.nodes.length (-1)) ⟨g7 _,af3,rfl⟩ (cl C) (by simp only [gv,af3];exact aX) ?_;rintro ⟨j,out⟩ ⟨aL,fZ,aq⟩ I
 try simp only at aL fZ aq I ⊢
 refine b7 ?_;refine ae.cond C (fun au=>?_) (fun aV=>?_)
 ·have au:j<p.methods.length:=by simpa using au
  obtain ⟨m,ab,bL⟩:=b8 (f:=lM) au;have fH:=d5 ab;rw [drop_cons ab,nZ] at aq;have cc:=aF.facts m fH;have Cf:=Wd (ca p) oc m.fact af;have dn:=Zg (ca p) m.fact.size m.fact (g8 _) af;rw [ak.b6] at Cf dn;unfold ak.cells at Cf dn;unfold lM n2 at bL;refine et ?_;by_cases nv:m.kind≥1;rotate_left
  ·refine aa.dh 66 C (ab' nv) ?_
   refine ed ?_;refine aa.bX C C C C C (hc _) I .nil ?_ ?_;rotate_left
   ·rintro _ _ ⟨rfl,h⟩ I
    obtain ⟨az,rfl⟩:=gQ h;rw [d8] at I ⊢;exact Fin.fi I aJ (aG.all _) (.inr ⟨rfl,(by rw [ck,aq];simp [tP,nv]),_,_,rfl⟩)
   rintro _ _ ⟨rfl,h⟩ I;obtain ⟨U,rfl⟩:=gP h;rw [d8] at I ⊢;exact absurd U ba
  refine aa.dY 66 C (i7 nv) ?_;refine dU ?_;by_cases hE:m.kind≤4;rotate_left
  ·refine aa.dh 71 C (ab' hE) ?_
   refine ed ?_;refine aa.bX C C C C C (hc _) I .nil ?_ ?_;rotate_left
   ·rintro _ _ ⟨rfl,h⟩ I
    obtain ⟨az,rfl⟩:=gQ h;rw [d8] at I ⊢;exact Fin.fi I aJ (aG.all _) (.inr ⟨rfl,(by rw [ck,aq];simp [tP,hE]),_,_,rfl⟩)
   rintro _ _ ⟨rfl,h⟩ I;obtain ⟨U,rfl⟩:=gP h;rw [d8] at I ⊢;exact absurd U ba
  refine aa.dY 71 C (i7 hE) ?_;refine dU ?_;by_cases xk:m.gen≥0;rotate_left
  ·refine aa.dh 76 C (ab' xk) ?_
   refine ed ?_;refine aa.bX C C C C C (hc _) I .nil ?_ ?_;rotate_left
   ·rintro _ _ ⟨rfl,h⟩ I
    obtain ⟨az,rfl⟩:=gQ h;rw [d8] at I ⊢;exact Fin.fi I aJ (aG.all _) (.inr ⟨rfl,(by rw [ck,aq];simp [tP,xk]),_,_,rfl⟩)
   rintro _ _ ⟨rfl,h⟩ I;obtain ⟨U,rfl⟩:=gP h;rw [d8] at I ⊢;exact absurd U ba
  refine aa.dY 76 C (i7 xk) ?_;obtain ⟨g,av⟩:∃ g:Nat,m.gen=g:=⟨m.gen.toNat,by omega⟩;have ZN:tP p m=(decide (g<p.ef.length)&&(iJ (ca p) m.fact&&decide (lI m.fact≤p.ef.getD g 0))):=by
   unfold tP;rw [i7 nv,i7 hE,i7 xk,av,ae1];simp
  rw [ZN,av,ae1] at aq;rw [av];refine dU ?_;refine aa.bX C C C C C (hc _) I .nil ?_ ?_;rotate_left
  ·rintro _ _ ⟨rfl,h⟩ I
   obtain ⟨az,rfl⟩:=gQ h;rw [d8] at I ⊢;exact Fin.fi I aJ (aG.all _) (.inr ⟨rfl,(by rw [ck,aq,show decide (g<p.ef.length)=false by simpa using az];rfl),_,_,rfl⟩)
  rintro _ _ ⟨rfl,h⟩ I;obtain ⟨xl,rfl⟩:=gP h;rw [d8] at I ⊢;have xl:g<p.ef.length:=by simpa using xl
  rw [i7 xl,f5] at aq;obtain ⟨x,Cg,ZO⟩:=b8 (f:=a8) xl;have k6:p.ef.getD g 0=x:=by rw [d7,Cg];rfl
  have adu:1≤x∧x≤3:=by
   have:=List.all_eq_true.1 uj x (d5 Cg);simpa using this
  rw [k6] at aq;unfold a8 at ZO;cases a7:iJ (ca p) m.fact with
  | false=>
   rw [a7] at Cf;simp only [af8,ah'] at Cf;refine pD ?_;refine aK.bX C C C C C C (hc _) I .nil ?_ ?_;rotate_left
   ·rintro _ _ ⟨rfl,h⟩ I
    obtain ⟨az,rfl⟩:=gQ h;rw [d8] at I ⊢;exact Fin.fi I aJ (aG.all _) (.inr ⟨rfl,(by rw [ck,aq,a7];rfl),_,_,rfl⟩)
   rintro _ _ ⟨rfl,h⟩ I;obtain ⟨U,rfl⟩:=gP h;rw [d8] at I ⊢;exact absurd U ba
  | true=>
  rw [a7,g6 C] at Cf;rw [a7,f5] at aq;have dn:=dn (sr m.fact (ca p) 12 24 a7);refine pD ?_;refine aK.bX C C C C C C (hc _) I .nil ?_ ?_;rotate_left
  ·rintro _ _ ⟨rfl,h⟩ I
   obtain ⟨az,rfl⟩:=gQ h;rw [d8] at I ⊢;exact Fin.fi I aJ (aG.all _) (.inr ⟨rfl,(by rw [ck,aq,az];rfl),_,_,rfl⟩)
  rintro _ _ ⟨rfl,h⟩ I;obtain ⟨ZP,rfl⟩:=gP h;rw [d8] at I ⊢;rw [ZP,g6 C] at aq;have vF:=Pv p aF uj db b out fZ g4 m.node x (tQ m.kind) af;unfold cZ at vF;by_cases aE:m.kind=1
  ·rw [aE] at vF aq ⊢
   refine pD ?_;refine aK.gM C C C C C C C vF I (aG.all _) ?_ ?_;rotate_left
   ·rintro _ _ ⟨bR,eT,rfl,(⟨h,_⟩|⟨⟨⟩,aw⟩)⟩ I
    ·cases h
    rw [aw] at aq;exact Fin.fi I aJ (aG.all _) (.inr ⟨rfl,by rw [ck,aq];rfl,_,_,rfl⟩)
   rintro _ _ ⟨bR,eT,rfl,(⟨⟨⟩,aw⟩|⟨h,_⟩)⟩ I;rotate_left
   ·cases h
   rw [aw] at aq;rw [d6] at I ⊢;refine gx ?_;exact bn.mk (j+1,bR) I ⟨au,eT,aq⟩ cj (aG.all _) o9
  ·have kP:tQ m.kind=decide (m.kind=4):=by unfold tQ;rw [ab' aE];rfl
   rw [kP] at vF aq;refine pD ?_;refine aK.split 115 C (fun h=>absurd (aj' h) aE) (fun _=>?_);refine jF ?_;refine aK.gM C C C C C C C vF I (aG.all _) ?_ ?_;rotate_left
   ·rintro _ _ ⟨bR,eT,rfl,(⟨h,_⟩|⟨⟨⟩,aw⟩)⟩ I
    ·cases h
    rw [aw] at aq;exact Fin.fi I aJ (aG.all _) (.inr ⟨rfl,by rw [ck,aq];rfl,_,_,rfl⟩)
   rintro _ _ ⟨bR,eT,rfl,(⟨⟨⟩,aw⟩|⟨h,_⟩)⟩ I;rotate_left
   ·cases h
   rw [aw] at aq;rw [d6] at I ⊢;refine gx ?_;exact bn.mk (j+1,bR) I ⟨au,eT,aq⟩ cj (aG.all _) o9
 have aV:j=p.methods.length:=by simp at aV;omega
 subst aV;rw [eD (g8 _),nZ] at aq;rw [aq] at ck;have vF:=Pv p aF uj db b out fZ g4 p.main 0 false af;unfold cZ at vF;refine bl ?_;refine aa.gM C C C C C C vF I (aG.all _) ?_ ?_;rotate_left
 ·rintro _ _ ⟨bR,eT,rfl,(⟨h,_⟩|⟨⟨⟩,aw⟩)⟩ I
  ·cases h
  exact Fin.fi I aJ (aG.all _) (.inr ⟨rfl,by rw [ck];show (visitM p false 12 p.main 0 out).bind _=none;rw [aw];rfl,_,_,rfl⟩)
 rintro _ _ ⟨bR,eT,rfl,(⟨⟨⟩,aw⟩|⟨h,_⟩)⟩ I;rotate_left
 ·cases h
 have ck:n0 p=if bR.contains (-1) then none else some bR:=by
  rw [ck];show (visitM p false 12 p.main 0 out).bind _=_;rw [aw];rfl
 rw [d6] at I ⊢;have zE:=Ob b bR.length bR [] (-1) af;unfold vo at zE;rw [d6] at zE;unfold gv at I;refine cC I ?_;intro I;refine aa.bX rfl rfl rfl rfl rfl zE I aX ?_ (fun _ _ ⟨h,_⟩ _=>by cases h);rintro _ _ ⟨⟨⟩,rfl⟩ I;simp only [aa',d8] at I ⊢;refine dU ?_;refine aa.bX C C C C C (hc _) I .nil ?_ ?_;rotate_left
 ·rintro _ _ ⟨rfl,h⟩ I
  obtain ⟨az,rfl⟩:=gQ h;rw [d8] at I ⊢;exact Fin.fi I aJ (.cons (.there .here) (.cons .here .nil)) (.inr ⟨rfl,by rw [ck,show bR.contains (-1)=true by simpa using az];rfl,_,_,rfl⟩)
 rintro _ _ ⟨rfl,h⟩ I;obtain ⟨U,rfl⟩:=gP h;rw [d8] at I ⊢;rw [show bR.contains (-1)=false by simpa using U,f0 ba] at ck;refine gr ?_;exact Fin.bs I C aJ (.cons (.there .here) (.cons .here .nil)) (.inl ⟨rfl,b,bR,eT,ck,rfl⟩);done
def ZQ (p:bT) (o:eC) (K:a'):Prop:=
 (∃ b out,out.length=p.nodes.length∧n0 p=some out∧o = .ret (.cw [ee b out.length out.length,.bool true])∧K=[(.own b,.box 3 (out.map a8))])∨(n0 p=none∧(∃ v,o = .ret (.cw [v,.bool false]))∧K=[])
theorem ZR (p:bT) (aF:ga p):bA d0 187 [cW p] ([]) (ZQ p):=by
 have an:=bD;refine bA.bh ah Tryz.func187 C C fun s I=>?_
 unfold cW cZ
 repeat (first|(refine DG ?_)|refine aa.eb ah I C C C C C C C (fun cH I=>?_))
 have a7:=Zw 221 [] [.bw (cZ p) 0,.ptr cH 0] [(.own cH,.box 23 [.aA 0 [] .nil])] (fun K=>∃ b out,out.length=p.nodes.length∧n0 p=some out∧K=gv cH b out) (fun K=>n0 p=none∧∃ v R,K=(.own cH,.box 23 [v])::R) (dA.mono (ZJ p aF cH (.aA 0 [] .nil)) (fun o K h=>by
  rcases h with ⟨U,b,out,ad,al,bf⟩|⟨U,ad,al⟩
  ·exact .inl ⟨U,b,out,ad,al,bf⟩
  ·exact .inr ⟨U,ad,al⟩))
 unfold cZ at a7;refine aa.bX C C C C C a7 I aX ?_ ?_;rotate_left
 ·rintro x aO (⟨h,_⟩|⟨h,_⟩) I
  ·cases h
  ·cases h
 rintro x aO (⟨⟨⟩,b,out,aC,eR,rfl⟩|⟨⟨⟩,eR,v,R,rfl⟩) I
 ·unfold gv at I ⊢
  simp only [aa',d8,d6] at I ⊢;refine cC I ?_;intro I;exact Fin.bs I C aJ (.cons (.there .here) .nil) (.inl ⟨b,out,aC,eR,rfl,rfl⟩)
 ·simp only [aa',d8,d6] at I ⊢
  refine cC I ?_;intro I;exact Fin.bs I C aJ .nil (.inr ⟨eR,⟨v,rfl⟩,rfl⟩)
theorem ZS (p:bT) (aF:ga p):aT d0 146 [cW p] (.int .i64 (if gA p then 0 else 2)):=by
 have an:=bD;refine aT.bh ah Tryz.func146 C C fun s I=>?_
 have bG:=ZR p aF;unfold cW cZ at *;unfold gA;refine dt ?_;refine aa.bX C C C C C bG I .nil ?_ ?_;rotate_left
 ·rintro x aO (⟨b,out,_,_,h,_⟩|⟨_,⟨v,h⟩,_⟩) I
  ·cases h
  ·cases h
 rintro x aO (⟨b,out,_,eR,⟨⟩,rfl⟩|⟨eR,⟨v,⟨⟩⟩,rfl⟩) I
 ·rw [eR]
  refine bl ?_;exact bB I
 ·rw [eR]
  refine ed ?_;exact bB I
def Pw:ag := .agg [.aA 0 [] .nil,.aA 0 [] .nil]
theorem ZT {p:bT} (h:gA p=true):pN p=true:=by
 unfold gA n0 at h;cases aB:pN p with
 | true=>rfl
 | false=>rw [aB,f9] at h;cases h
theorem x1 {p:bT} (h:gA p=true):gz (ca p):=Hh (ZT h)
theorem JA (p:bT) (aF:ga p):aT d0 100 [cW p] (.cw [if gA p then fz (ca p) else Pw,.int .i64 (if gA p then 0 else 2)]):=by
 have an:=bD;refine aT.bh ah Tryz.func100 C C fun s I=>?_
 have aB:=ZS p aF;have hw:=No p aF;unfold cW cZ at *;cases dk:gA p with
 | false=>
  rw [dk] at aB;unfold Pw
  repeat (first|(refine Uc I ?_;clear I;intro I)|refine aa.eb ah I rfl rfl rfl rfl rfl rfl rfl (fun cH I=>?_)|(refine qo ?_))
  exact Fin.cB I (wY C C (bo.get aW I) C C) aJ
 | true=>
  rw [dk] at aB;have adv:(fL 0 p.cm).length≤40:=(x1 dk).bp;have hw:=hw af;unfold fz fE at *
  repeat (first|(refine Ud I ?_;clear I;intro I)|refine aa.eb ah I rfl rfl rfl rfl rfl rfl rfl (fun cH I=>?_)|(refine qo ?_))
  exact Fin.cB I (wY C C (bo.get aW I) C C) aJ
mutual
theorem Px:∀ (f:ak) (w:bz) (d:Nat) (k:Int),(fb w d k f).1=true→0≤(fb w d k f).2∧((js f).length:Int)+(fb w d k f).2≤k
  | .mk o a p c n ks,w,d,k,h=>by
    rw [fb] at h ⊢;split at h
    · cases h
    · rename_i aE
      rw [f0 aE];split at h
      · rename_i az
        rw [g6 az];have mx:0≤k-1:=by
          simp only [Bool.or_eq_true,i8,not_or] at aE;omega
        obtain ⟨U,ad⟩:=Py ks w (d-1) (k-1) mx h;refine ⟨U,?_⟩;rw [js];split
        · simp only [g9,af6];omega
        · omega
      · cases h
theorem Py:∀ (l:List ak) (w:bz) (d:Nat) (k:Int),0≤k→(hj w d k l).1=true→0≤(hj w d k l).2∧((kY l).length:Int)+(hj w d k l).2≤k
  | [],_,_,_,aE,_=>by rw [hj,kY];exact ⟨aE,by simp⟩
  | x::r,w,d,k,aE,h=>by
    rw [hj] at h ⊢;split at h
    · rename_i ab
      rw [g6 ab,kY,f6];obtain ⟨U,ad⟩:=Px x w d k ab;obtain ⟨al,bf⟩:=Py r w d _ U h;exact ⟨al,by push_cast;omega⟩
    · cases h
end
theorem Pz {w:bz} {f:ak} (h:iJ w f=true):(js f).length≤24:=by
 have:=Px f w 12 24 h;omega
mutual
theorem E7:∀ (f:ak) (w:bz),gH w f=true→∀ x∈js f,gH w x=true∧x.c5=true
  | .mk o a p c n ks,w,h,x,ab=>by
    rw [js] at ab;split at ab
    · rename_i aC
      rw [H1] at ab;subst ab;exact ⟨h,aC⟩
    · rw [gH,f8] at h
      exact PA ks w h.2 x ab
theorem PA:∀ (l:List ak) (w:bz),j' w l=true→∀ x∈kY l,gH w x=true∧x.c5=true
  | [],_,_,x,ab=>by cases ab
  | y::r,w,h,x,ab=>by
    rw [j',f8] at h;rw [kY] at ab;rcases ae'.1 ab with ab|ab
    · exact E7 y w h.1 x ab
    · exact PA r w h.2 x ab
end
theorem s4 {w:bz} {f:ak} (h:gH w f=true) (aC:f.c5=true):f.path.length≤2:=by
 rw [oL,f8] at h;have h:=h.1;unfold ik at h;rw [aC] at h;simp only [f8,ag7,i8] at h;exact h.2.2.2.2.2.1
theorem ZU (l:List ak) (f:ak):(hS l f).length≤l.length+1:=by
 unfold hS;split
 ·omega
 ·simp
theorem ZV {l:List ak} {f x:ak} (h:x∈hS l f):x∈l∨x=f:=by
 unfold hS at h;split at h
 ·exact .inl h
 ·rcases ae'.1 h with h|h
  ·exact .inl h
  ·exact .inr (H1.1 h)
theorem PB {p:bT}:∀ {l:List h9} {out o:List Int},nZ p l out=some o→∀ m∈l,tP p m=true
  | x::r,out,o,h,m,hm=>by
    rw [nZ] at h;split at h
    · rename_i ab
      cases aw:visitM p (tQ x.kind) 12 x.node (p.ef.getD x.gen.toNat 0) out with
      | none=>rw [aw] at h;cases h
      | some bR=>
        rw [aw] at h;rcases af2.1 hm with rfl|hm
        · exact ab
        · exact PB (l:=r) h m hm
    · cases h
theorem PC {p:bT} (h:gA p=true):pN p=true∧rz p=true∧∃ o,nZ p p.methods (t6 p.nodes.length (-1))=some o:=by
 unfold gA n0 at h;split at h
 ·rename_i aB
  rw [f8] at aB;refine ⟨aB.1,aB.2,?_⟩;cases hm:nZ p p.methods (t6 p.nodes.length (-1)) with
  | none=>rw [hm] at h;cases h
  | some o=>exact ⟨o,rfl⟩
 ·cases h
theorem Ch {p:bT} (h:gA p=true) {m:h9} (hm:m∈p.methods):iJ (ca p) m.fact=true:=by
 obtain ⟨-,-,o,ai⟩:=PC h;have:=PB ai m hm;unfold tP at this;simp only [f8] at this;exact this.2.2.2.2.1
theorem uk {p:bT} (h:gA p=true):p.methods.length≤16∧p.ef.length≤8:=by
 obtain ⟨-,aC,-⟩:=PC h;unfold rz at aC;simp only [f8,i8] at aC;exact ⟨aC.2.1,aC.1⟩
def iD (w:bz) (l:List ak):Prop:=∀ x∈l,gH w x=true∧x.c5=true
theorem JB {w:bz} (gen:Int):∀ (da l:List ak),iD w l→iD w da→iD w (da.foldl hS l)∧(da.foldl hS l).length≤l.length+da.length
  | [],l,h,_=>⟨h,g8 _⟩
  | x::r,l,h,a6=>by
    have U:iD w (hS l x):=fun y ay=>by
      rcases ZV ay with ay|rfl
      · exact h y ay
      · exact a6 _ i6
    obtain ⟨ad,al⟩:=JB (w:=w) gen r (hS l x) U (fun y ay=>a6 y (i0 _ ay));have:=ZU l x;exact ⟨ad,by rw [ah7,g9];omega⟩
theorem JC {p:bT} (aF:gA p=true) (gen:Int):∀ (ms:List h9) (l:List ak),(∀ m∈ms,m∈p.methods)→iD (ca p) l→iD (ca p) (ms.foldl (iP gen) l)∧(ms.foldl (iP gen) l).length≤l.length+24*ms.length
  | [],l,_,h=>⟨h,g8 _⟩
  | m::r,l,hm,h=>by
    have a7:=Ch aF (hm m i6);have U:iD (ca p) (iP gen l m)∧(iP gen l m).length≤l.length+24:=by
      unfold iP;split
      · obtain ⟨ad,al⟩:=JB (w:=ca p) gen (js m.fact) l h (E7 m.fact _ (sr _ _ _ _ a7))
        have:=Pz a7;exact ⟨ad,by omega⟩
      · exact ⟨h,by omega⟩
    obtain ⟨bf,bE⟩:=JC aF gen r (iP gen l m) (fun x ab=>hm x (i0 _ ab)) U.1;exact ⟨bf,by rw [ah7,g9];omega⟩
theorem JD {p:bT} (aF:gA p=true) (gen:Int):iD (ca p) (ct p gen)∧(ct p gen).length≤384:=by
 obtain ⟨U,ad⟩:=JC aF gen p.methods [] (fun _ h=>h) (fun _ h=>by cases h);have:=(uk aF).1;exact ⟨U,by unfold ct;simp only [af6] at ad;omega⟩
def eh (p:bT) (n:Int) (da vs:ag) (an cb:Nat):List ag:=[.aA 3 (p.cm.map jo) .bb,.int .i64 p.bp,bd p.ef,.aA 9 (p.methods.map lM) .bb,.aA 3 (p.nodes.map jq) .bb,.int .i64 p.main,.int .i64 n,df (ca p).ps,bd (ca p).owner,da,vs,.map an,.map cb]
def oj (p:bT) (n:Int) (cr an cb:Nat) (bu:zn) (l:List ak):a':=(.own cr,.box 110 (eh p n (rV bu l) (.aA 0 [] .nil) an cb))::(.own an,.map [])::(.own cb,.map [])::qL bu
def dd (l:List ak):ag := .aA 6 (l.map ak.bK) .bb
def ZW (p:bT) (n:Int) (o:eC) (K:a'):Prop:=
 (hy p n=0∧∃ cr an cb,o = .ret (.cw [.ptr cr 0,.int .i64 0])∧K=[(.own cr,.box 110 (eh p n (dd (ct p n)) (.aA 0 [] .nil) an cb)),(.own an,.map []),(.own cb,.map [])]) ∨
 (hy p n≠0∧(∃ v,o = .ret (.cw [v,.int .i64 (hy p n)]))∧K=[])
theorem PD {cs:List ag} {l:List ak} {x:ak} {zc:List ag} (bG:zc.length=6) (h:cs.take ((l.length+1)*6)=(l.map ak.cells).flatten++zc) :
  (eM (l.length*6) x.cells cs).length=cs.length∧(eM (l.length*6) x.cells cs).take ((l.length+1)*6)=(l.map ak.cells).flatten++x.cells:=by
 have U:=OF (sz:=6) (cs:=cs) (xss:=l.map ak.cells++[zc]) (n:=l.length+1) (j:=l.length) (ys:=zc) (ys':=x.cells) (fun c aB=>by
  rcases ae'.1 aB with aB|aB
  ·exact IX l c aB
  ·rw [H1.1 aB];exact bG) (by rw [h];simp) (by rw [List.getElem?_append_right ba];simp) C
 refine ⟨U.1,U.2.trans ?_⟩;rw [List.set_append_right _ _ ba];simp
theorem E8 (p:bT) (aF:ga p) (n:Int):bA d0 58 [cW p,.int .i64 n] [] (ZW p n):=by
 have an:=bD;have hw:=JA p aF;have iK:=aF.ef;have ht:=aF.Eg;have eS:hy p n=hy p n:=rfl
 conv at eS=>rhs;unfold hy
 refine bA.bh ah Tryz.func58 C C fun s I=>?_
 unfold cW cZ at *;cases dk:gA p with
 | false=>
  rw [dk] at hw;simp only [af8,ah'] at hw;rw [dk,f9,f0 ba] at eS;refine et ?_;exact Fin.bs I C aJ .nil (.inr ⟨by omega,⟨_,by rw [eS]⟩,rfl⟩)
 | true=>
 rw [dk,g6 C,g6 C] at hw;rw [dk,f5] at eS;have JE:pZ p n=(decide (n≥0)&&decide (n<(p.ef.length:Int))):=rfl;obtain ⟨vG,PE⟩:=uk dk;refine et ?_;by_cases yv:n<0
 ·refine aa.dY 23 C (i7 yv) ?_
  rw [JE,show decide (n≥0)=false by simp;omega,f9,f0 ba] at eS;refine ed ?_;exact Fin.bs I C aJ .nil (.inr ⟨by omega,⟨_,by rw [eS]⟩,rfl⟩)
 refine aa.dh 23 C (ab' yv) ?_;refine gr ?_;refine ae.cond C (fun we=>?_) (fun we=>?_)
 ·rw [JE,show decide (n<(p.ef.length:Int))=false by simp [bd] at we ⊢;omega,Bool.and_false,f0 ba] at eS
  refine gX ?_;exact Fin.bs I C aJ .nil (.inr ⟨by omega,⟨_,by rw [eS]⟩,rfl⟩)
 rw [JE,show decide (n<(p.ef.length:Int))=true by simp [bd] at we ⊢;omega,show decide (n≥0)=true by simp;omega,g6 (by rfl)] at eS;refine dG ?_;refine aa.sj I C C C C (fun dO I=>?_);refine aa.sj I C C C C (fun cb I=>?_);refine cv C ?_;refine aa.jC I C C C C C C (fun cr I=>?_);refine et ?_;refine ae.b5 [1,8,38,39] C I (σ:=Nat×zn×List ak) (fun q=>[(40,.int .i64 (q.1:Int))]) (fun q=>oj p n cr dO cb q.2.1 q.2.2)
  (fun q=>q.1≤p.methods.length∧IW q.2.1 q.2.2∧iD (ca p) q.2.2∧q.2.2.length≤24*q.1∧ct p n=(p.methods.drop q.1).foldl (iP n) q.2.2) (fun q=>p.methods.length-q.1) (0,none,[])
  ⟨g7 _,rfl,(fun x h=>absurd h List.not_mem_nil:iD (ca p) []),g7 _,rfl⟩ (cl C) (by simp only [oj,qL,eh,rV];exact aX) ?_
 rintro ⟨j,bu,l⟩ ⟨aL,cR,cX,mO,aq⟩ I
 try simp only at aL cR cX mO aq I ⊢
 refine b7 ?_;refine ae.cond C (fun au=>?_) (fun aV=>?_);rotate_left
 ·have aV:j=p.methods.length:=by simp at aV;omega
  rw [eD af,au4] at aq;subst aq;unfold oj at I ⊢;rcases bu with _|⟨g,cap,cs⟩
  ·have bq:ct p n=[]:=cR
   have ji:dd (ct p n) = .aA 6 [] .bb:=by rw [bq];rfl
   refine ae.qM I (eh p n (dd (ct p n)) (.aA 0 [] .nil) dO cb) .here (by
    rw [ji];unfold eh
    repeat (first|exact cU.nil|refine cU.cons (by first|exact aJ|exact aQ.empty) ?_)) (fun I=>?_)
   unfold dd at I ⊢;refine cC I ?_;intro I;refine ae.cond C (fun ig=>?_) (fun ig=>?_)
   ·have ig:¬ (ct p n).length≤7:=by simp [bq] at ig ⊢ <;> omega
    rw [f0 ig] at eS;refine gX ?_;exact Fin.bs I C aJ .nil (.inr ⟨by omega,⟨_,by rw [eS]⟩,rfl⟩)
   ·have ig:(ct p n).length≤7:=by simp [bq] at ig ⊢ <;> omega
    rw [g6 ig] at eS;refine bl ?_;exact Fin.bs I C aJ (by simp only [eh];exact aX) (.inl ⟨eS,cr,dO,cb,rfl,rfl⟩)
  ·obtain ⟨jR,jk,Ci⟩:=cR
   unfold qL eh rV at I ⊢;refine ae.BV I 9 .here (.there (.there .here)) C Ci (d9 _) (IX _) jk af (fun I=>?_);have ji:((ct p n).map ak.cells).map ag.agg=(ct p n).map ak.bK:=by
    rw [au1];exact List.map_congr_left (fun x _=>(ak.b6 x).symm)
   rw [ji] at I ⊢
   try unfold dd at I
   refine cC I ?_;intro I;refine ae.cond C (fun ig=>?_) (fun ig=>?_)
   ·have ig:¬ (ct p n).length≤7:=by simp [Nat.not_le] at ig ⊢ <;> omega
    rw [f0 ig] at eS;refine gX ?_;exact Fin.bs I C aJ .nil (.inr ⟨by omega,⟨_,by rw [eS]⟩,rfl⟩)
   ·have ig:(ct p n).length≤7:=by simp [Nat.not_le] at ig ⊢ <;> omega
    rw [g6 ig] at eS;refine bl ?_;exact Fin.bs I C aJ (by simp only [eh];exact aX) (.inl ⟨eS,cr,dO,cb,rfl,rfl⟩)
 have au:j<p.methods.length:=by simpa using au
 obtain ⟨m,ab,bL⟩:=b8 (f:=lM) au;have fH:=d5 ab;have cc:=aF.facts m fH;have zF:=Ch dk fH;have k6:=sr _ _ _ _ zF;have kt:=Pz zF;have JF:=E7 m.fact _ k6;have zG:=Ym m.fact;have oI:=Yl m.fact af;rw [ak.b6] at zG;unfold ak.cells at zG oI;rw [drop_cons ab,ah7] at aq;unfold lM n2 at bL;refine et ?_;refine ae.cond C (fun av=>?_) (fun av=>?_)
 ·have av:m.gen≠n:=by simpa using av
  rw [show iP n l m=l by unfold iP;rw [f0 av]] at aq;refine kL ?_;exact bn.mk (j+1,bu,l) I ⟨au,cR,cX,by show l.length≤24*(j+1);omega,aq⟩ cj (aG.all _) o9
 have av:m.gen=n:=by simpa using av
 rw [show iP n l m=(js m.fact).foldl hS l by unfold iP;rw [g6 av]] at aq;refine c2 ?_;refine ae.G5 I C du oI .nil (fun rem K=>∃ oe fk,IW oe fk∧iD (ca p) fk∧fk.length+rem.length≤24*(j+1)∧(∀ x∈rem,gH (ca p) x=true∧x.c5=true)∧(js m.fact).foldl hS l=rem.foldl hS fk∧K=oj p n cr dO cb oe fk) (fun _ _=>False) (fun _ _=>False) ⟨bu,l,cR,cX,by omega,JF,rfl,rfl⟩ ?_ ?_ (fun _ _ h=>h.elim) (fun _ _ h=>h.elim);rotate_left
 ·rintro K ⟨oe,fk,vk,JF,eT,-,kT,rfl⟩ I
  rw [kT,au4] at aq;refine gx ?_;exact bn.mk (j+1,oe,fk) I ⟨au,vk,JF,by show fk.length≤24*(j+1);simpa using eT,aq⟩ cj (aG.all _) o9
 rintro s₁ x rem K ⟨oe,fk,vk,E9,eT,qT,kT,rfl⟩ I;have zH:=qT x i6;have Ni:=s4 zH.1 zH.2;have tZ:=fun f11=>Ys oe fk af vk f11 x af (fun y ay=>by have:=s4 (E9 y ay).1 (E9 y ay).2;omega)
 rw [ah7] at kT;rw [ak.b6];unfold ak.cells;have cy:=Bk x.path .bb af;have Cj:hS fk x=if fk.any (fun y=>fT y x) then fk else fk++[x]:=rfl
 have E':iD (ca p) (fk++[x]):=fun y ay=>by
  rcases ae'.1 ay with ay|ay
  ·exact E9 y ay
  ·rw [H1.1 ay];exact zH
 have Fa:(fk++[x]).length+rem.length≤24*(j+1):=by
  simp only [g9,f6,af6] at eT ⊢;omega
 have nQ:(fk++[x]).map ak.cells=fk.map ak.cells++[x.cells]:=by simp
 have Fb:((fk++[x]).map ak.cells).flatten=(fk.map ak.cells).flatten++x.cells:=by rw [nQ];simp
 have um:(fk++[x]).length=fk.length+1:=by simp
 unfold oj at I ⊢;rcases oe with _|⟨g,cap,cs⟩
 all_goals
  simp only [qL,rV,o7,ak.cells] at tZ;simp only [qL,rV,eh] at I ⊢
 ·have bq:fk=[]:=vk
  subst bq
  repeat (first|(refine GU I ?_;clear I;intro I)|refine aa.eb ah I rfl rfl rfl rfl rfl rfl rfl (fun cH I=>?_))
  refine aa.bX rfl rfl rfl rfl rfl (tZ cH) I aX ?_ (fun _ _ ⟨h,_⟩ _=>by cases h);rintro _ _ ⟨⟨⟩,rfl⟩ I;simp only [d8,aa'] at I ⊢;have p3:([]:List ak).any (fun y=>fT y x)=false:=rfl;refine cC I ?_;intro I;refine ae.rk ah mixed C (bc.run C ?_);refine bc.eb 0 ah I C C C C C C C C C (fun ZX I=>?_);refine bc.run C ?_;refine bc.many C (hZ.c (ko.DA (i:=1) C C C (aZ.cK ah I C C C C C C C aW C (X:=fun _ _=>False)) ?_ (fun _ _ h=>False.elim h)) (hZ.c (ko.DA (i:=2) C C C (aZ.cK ah I C C C C C C C aW C (X:=fun _ _=>False)) ?_ (fun _ _ h=>False.elim h)) hZ.n))
  ·rintro _ _ ⟨rfl,I⟩
   refine bc.run C ?_;refine bc.cK 2 ah I C C C C C C C C C C C aW b1 (fun I=>?_);refine bc.run C ?_;refine bc.ey 3 ah I C C C C C C C C aW b1 ?_;refine bc.run C ?_;refine bc.done C ?_;refine tC ?_;refine ae.nf (dc [(cr,_),(cH,_)]) ah mixed C (bg.run (dc.two (bo.get aW I) (bo.get aW I)) C ?_);refine bg.ni 4 ah (dc.two (bo.get aW I) (bo.get aW I)) C C C C C C C C (fun _ h=>dc.fst h) b1 ?_;refine bg.ni 5 ah (dc.two (bo.get aW I) (bo.get aW I)) C C C C C C C C (fun _ h=>dc.snd h) b1 ?_;refine bg.run (dc.two (bo.get aW I) (bo.get aW I)) C ?_;refine bg.o5 7 ah I C C C C C C C C C di C C C C C C C du (fun cT eA ew I _=>(dc.two (bo.get aW I) (bo.get aW I))) (fun cT eA ew cu cL dT I=>?_);refine bg.run (dc.two (bo.get aW I) (bo.get aW I)) C ?_;refine bg.cK 10 ah I C C C C C C C C C C C aW b1 (fun _ => .inr C) (fun I=>?_);refine bc.done C ?_;refine gx ?_;exact At.mk (oj p n cr dO cb (some (cT,eA,ew)) ([]++[x])) I (by simp only [oj,qL,rV,eh,um];exact aX) ⟨some (cT,eA,ew),[]++[x],⟨cu,oW,by rw [Fb];exact dT⟩,E',Fa,fun y ay=>qT y (i0 _ ay),by rw [kT,Cj,p3];rfl,rfl⟩
  ·rintro _ _ ⟨rfl,I⟩
   refine bc.run C ?_;refine bc.cK 1 ah I C C C C C C C C C C C aW b1 (fun I=>?_);refine bc.run C ?_;refine bc.ey 3 ah I C C C C C C C C aW b1 ?_;refine bc.run C ?_;refine bc.done C ?_;refine cC I ?_;intro I;refine aa.EL ah C C C C C C C C C C ?_;refine aa.o5 ah I C C C C C C C di C C C C C C C du (fun cT eA ew cu cL dT I=>?_);refine cC I ?_;intro I;refine aa.ej ah ([]:List ak).length C C C C C C C C C C ba ?_;refine aa.hQ ah I _ C C C C C C C C C aW (by rw [cu];show ([]:List ak).length*6+6≤eA*6;simp only [af6] at *;omega) C (fun I=>?_);obtain ⟨b2,bU⟩:=PD (x:=x) (l:=([]:List ak)) (cs:=ew) (zc:=_) rfl dT;refine fj ?_;exact At.mk (oj p n cr dO cb (some (cT,eA,(eM (([]:List ak).length*6) x.cells ew))) ([]++[x])) I (by simp only [oj,qL,rV,eh,um];exact aX) ⟨some (cT,eA,(eM (([]:List ak).length*6) x.cells ew)),[]++[x],⟨b2.trans cu,oW,by rw [Fb];exact bU⟩,E',Fa,fun y ay=>qT y (i0 _ ay),by rw [kT,Cj,p3];rfl,rfl⟩
 ·obtain ⟨jR,jk,Ci⟩:=vk
  repeat (first|(refine GU I ?_;clear I;intro I)|refine aa.eb ah I rfl rfl rfl rfl rfl rfl rfl (fun cH I=>?_))
  refine aa.bX rfl rfl rfl rfl rfl (tZ cH) I aX ?_ (fun _ _ ⟨h,_⟩ _=>by cases h);rintro _ _ ⟨⟨⟩,rfl⟩ I;simp only [d8,aa'] at I ⊢;cases p3:fk.any (fun y=>fT y x) with
  | true=>
   refine bl ?_;exact At.mk (oj p n cr dO cb (some (g,cap,cs)) fk) I (by simp only [oj,qL,rV,eh];exact aX) ⟨some (g,cap,cs),fk,⟨jR,jk,Ci⟩,E9,by simp only [g9] at eT;omega,fun y ay=>qT y (i0 _ ay),by rw [kT,Cj,p3];rfl,rfl⟩
  | false=>
  refine cC I ?_;intro I;refine ae.rk ah mixed C (bc.run C ?_);refine bc.eb 0 ah I C C C C C C C C C (fun ZX I=>?_);refine bc.run C ?_;refine bc.many C (hZ.c (ko.DA (i:=1) C C C (aZ.cK ah I C C C C C C C aW C (X:=fun _ _=>False)) ?_ (fun _ _ h=>False.elim h)) (hZ.c (ko.DA (i:=2) C C C (aZ.cK ah I C C C C C C C aW C (X:=fun _ _=>False)) ?_ (fun _ _ h=>False.elim h)) hZ.n))
  ·rintro _ _ ⟨rfl,I⟩
   refine bc.run C ?_;refine bc.cK 2 ah I C C C C C C C C C C C aW b1 (fun I=>?_);refine bc.run C ?_;refine bc.ey 3 ah I C C C C C C C C aW b1 ?_;refine bc.run C ?_;refine bc.done C ?_;refine tC ?_;refine ae.nf (dc [(cr,_),(cH,_)]) ah mixed C (bg.run (dc.two (bo.get aW I) (bo.get aW I)) C ?_);refine bg.ni 4 ah (dc.two (bo.get aW I) (bo.get aW I)) C C C C C C C C (fun _ h=>dc.fst h) b1 ?_;refine bg.ni 5 ah (dc.two (bo.get aW I) (bo.get aW I)) C C C C C C C C (fun _ h=>dc.snd h) b1 ?_;refine bg.run (dc.two (bo.get aW I) (bo.get aW I)) C ?_;refine bg.o6 7 ah I C C C C C C C C C di C C C C aW jR jk C C C C zq af (fun cT eA ew I _=>(dc.two (bo.get aW I) (bo.get aW I))) (fun cT eA ew cu cL dT I=>?_);refine bg.run (dc.two (bo.get aW I) (bo.get aW I)) C ?_;refine bg.cK 10 ah I C C C C C C C C C C C aW b1 (fun _ => .inr C) (fun I=>?_);refine bc.done C ?_;refine gx ?_;exact At.mk (oj p n cr dO cb (some (cT,eA,ew)) (fk++[x])) I (by simp only [oj,qL,rV,eh,um];exact aX) ⟨some (cT,eA,ew),fk++[x],⟨by rw [um] at *;exact cu,by rw [um];exact cL,by rw [Fb,um,← Ci];exact dT⟩,E',Fa,fun y ay=>qT y (i0 _ ay),by rw [kT,Cj,p3];rfl,rfl⟩
  ·rintro _ _ ⟨rfl,I⟩
   refine bc.run C ?_;refine bc.cK 1 ah I C C C C C C C C C C C aW b1 (fun I=>?_);refine bc.run C ?_;refine bc.ey 3 ah I C C C C C C C C aW b1 ?_;refine bc.run C ?_;refine bc.done C ?_;refine cC I ?_;intro I;refine aa.pG ah C C C C C C C ?_;skip;refine aa.EL ah C C C C C C C C C C ?_;refine aa.o6 ah I C C C C C C C di C C C C aW jR jk C C C C zq af (fun cT eA ew cu cL dT I=>?_);refine cC I ?_;intro I;refine aa.ej ah fk.length C C C C C C C C C C ba ?_;refine aa.hQ ah I _ C C C C C C C C C aW (by rw [cu];show fk.length*6+6≤eA*6;simp only [af6] at *;omega) C (fun I=>?_);obtain ⟨b2,bU⟩:=PD (x:=x) (l:=fk) (cs:=ew) (zc:=_) rfl (by rw [← Ci];exact dT);refine fj ?_;exact At.mk (oj p n cr dO cb (some (cT,eA,(eM (fk.length*6) x.cells ew))) (fk++[x])) I (by simp only [oj,qL,rV,eh,um];exact aX) ⟨some (cT,eA,(eM (fk.length*6) x.cells ew)),fk++[x],⟨b2.trans cu,by rw [um];exact cL,by rw [Fb,um];exact bU⟩,E',Fa,fun y ay=>qT y (i0 _ ay),by rw [kT,Cj,p3];rfl,rfl⟩
def eo (p:bT) (n:Int) (da vs:ag) (an cb cr:Nat):bN×dH:=(.own cr,.box 110 (eh p n da vs an cb))
theorem ZY (x f:ak) (ab:x.path.length<bC) (a7:f.path.length<bC):eF d0 (.func 175 [] [.bw f.cells 0]) [x.bK] (.bool (fT x f)):=by
 have U:=MU x f ab a7;have U:aT d0 104 [x.bK,f.bK] (.bool (fT x f)):=U;refine eF.fx (first:=[]) (cap:=[.bw f.cells 0]) ?_;refine aT.bh ah Tryz.func175 C C fun s I=>?_
 rw [ak.b6,ak.b6] at U;rw [ak.b6];unfold ak.cells at *;refine b' ?_;exact bB I
def Ck (l:List ak) (f:ak):Prop:=∀ x∈js f,l.any (fun y=>fT y x)=true
theorem PF:∀ {ks:List ak} {k x:ak},k∈ks→x∈js k→x∈kY ks
  | y::r,k,x,h,ab=>by
    rw [kY];rcases af2.1 h with rfl|h
    · exact aj0 _ ab
    · exact ao6 _ (PF h ab)
theorem Ck.JG {l:List ak} {f k:ak} (h:Ck l f) (aC:f.c5=false) (aE:k∈f.kids):Ck l k:=fun x ab=>h x (by
 rw [EE,aC,f0 ba];exact PF aE ab)
theorem ZZ (p:bT) (n:Int) (l:List ak) (vs:ag) (an cb cr:Nat) (w:bz) (fq:l.length≤7) (cX:iD w l) (v:Nat) (aw:v<2^63):∀ (k:Nat) (f:ak),f.size≤k→gH w f=true→Ck l f →
    bA d0 128 [.ptr cr 0,f.bK,.int .i64 (v:Int)] [eo p n (dd l) vs an cb cr] (fun o K=>o = .ret (.bool (p0 l v f))∧K=[eo p n (dd l) vs an cb cr]):=by
  have lD:bC=1099511627776:=rfl;intro k
  induction k with
  | zero=>intro x h;have:=x.size_eq;omega
  | succ k a1=>
    intro f az av fy;have iL:=f.size_eq;have fA:=Ow l v f;have zI:=av;rw [oL,f8] at av;obtain ⟨n6,kU⟩:=av;refine bA.bh ah Tryz.func128 C C fun s I=>?_
    rw [ak.b6];unfold eo eh dd at *;rcases Bv n6 with ⟨U,ad⟩|⟨aC,ad,U⟩|⟨U,x,ad⟩|⟨U,x,y,ad⟩
    · rw [U,g6 C] at fA
      rw [fA];unfold ak.cells;rw [U];refine bl ?_;exact Fin.bs I C aJ (aG.all _) ⟨rfl,rfl⟩
    · have b3:f.op=2∨f.op=3∨f.op=4:=by unfold ak.c5 at aC;simp at aC;omega
      have r3:=s4 zI aC;have p3:=fy f (by rw [EE,aC,g6 C];exact H1.2 C);obtain ⟨i,aR⟩:∃ i,l.findIdx? (fun x=>fT x f)=some i:=by
        cases h:l.findIdx? (fun x=>fT x f) with
        | some i=>exact ⟨i,rfl⟩
        | none=>
          rw [ai2] at h;obtain ⟨z,bG,C0⟩:=ag4.1 p3;rw [h z bG] at C0;cases C0
      have sI:i<l.length:=(ah3.1 aR).1;have Fc:=U6 (.func 175 [] [.bw f.cells 0]) (fun x=>fT x f) l af (fun x ab=>ZY x f (by have:=s4 (cX x ab).1 (cX x ab).2;omega) af);rw [aR] at Fc;simp only at Fc;have fA:p0 l v f=v.testBit i:=by
        rw [fA,f0 af,f0 af,f0 af,f0 af,aR]
      rw [fA,← BU];unfold ak.cells at Fc ⊢;rcases b3 with h|h|h
      all_goals
        rw [h] at Fc ⊢;refine hD I ?_;intro I;refine aa.shr _ C C C C C C af (tJ af) ?_;refine aa.bits _ C C C C C C (AU (n:=1) (ak1 (ap3 v i) aw) af) ?_;refine er ?_;exact Fin.bs I C aJ (aG.all _) ⟨rfl,rfl⟩
    · have aC:f.c5=false:=by unfold ak.c5;rw [U];rfl
      have ab:=ak.h8 (l:=f.kids) (x:=x) ld;have i1:=a1 x af (kr kU ld) (fy.JG aC ld);have b2:([x].map ak.bK)[0]? = some (.agg x.cells):=by rw [← ak.b6];rfl
      rw [U,f0 af,g6 C,ad,xK l v 0 [x] x C] at fA;rw [fA];rw [ak.b6] at i1;unfold ak.cells;rw [U,ad];refine bl ?_;refine aa.bX rfl rfl rfl rfl rfl i1 I (aG.all _) ?_ (fun _ _ ⟨h,_⟩ _=>by cases h);rintro _ _ ⟨⟨⟩,rfl⟩ I;rw [d6] at I ⊢;refine bl ?_;exact Fin.bs I C aJ (aG.all _) ⟨rfl,rfl⟩
    · have aC:f.c5=false:=by unfold ak.c5;rcases U with U|U<;>rw [U]<;>rfl
      have ab:=ak.h8 (l:=f.kids) (x:=x) ld;have ay:=ak.h8 (l:=f.kids) (x:=y) sy;have i1:=a1 x af (kr kU ld) (fy.JG aC ld);have i2:=a1 y af (kr kU sy) (fy.JG aC sy);have b2:([x,y].map ak.bK)[0]? = some (.agg x.cells):=by rw [← ak.b6];rfl
      have bU:([x,y].map ak.bK)[1]? = some (.agg y.cells):=by rw [← ak.b6];rfl
      rw [ak.b6] at i1 i2;rw [ad,xK l v 0 [x,y] x C,xK l v 1 [x,y] y C] at fA;unfold ak.cells;rw [ad];rcases U with U|U
      all_goals
        rw [U] at fA ⊢;cases vh:p0 l v x with
        | true=>
          rw [vh] at fA i1;simp at fA;rw [fA];refine bl ?_;refine aa.bX rfl rfl rfl rfl rfl i1 I (aG.all _) ?_ (fun _ _ ⟨h,_⟩ _=>by cases h);rintro _ _ ⟨⟨⟩,rfl⟩ I;rw [d6] at I ⊢;refine bl ?_
          first
            | exact Fin.bs I C aJ (aG.all _) ⟨rfl,rfl⟩
            | (refine aa.bX rfl rfl rfl rfl rfl i2 I (aG.all _) ?_ (fun _ _ ⟨h,_⟩ _=>by cases h)
               rintro _ _ ⟨⟨⟩,rfl⟩ I
               rw [d6] at I ⊢
               refine bl ?_
               exact Fin.bs I C aJ (aG.all _) ⟨rfl,rfl⟩)
        | false=>
          rw [vh] at fA i1;simp at fA;rw [fA];refine bl ?_;refine aa.bX rfl rfl rfl rfl rfl i1 I (aG.all _) ?_ (fun _ _ ⟨h,_⟩ _=>by cases h);rintro _ _ ⟨⟨⟩,rfl⟩ I;rw [d6] at I ⊢;refine bl ?_
          first
            | exact Fin.bs I C aJ (aG.all _) ⟨rfl,rfl⟩
            | (refine aa.bX rfl rfl rfl rfl rfl i2 I (aG.all _) ?_ (fun _ _ ⟨h,_⟩ _=>by cases h)
               rintro _ _ ⟨⟨⟩,rfl⟩ I
               rw [d6] at I ⊢
               refine bl ?_
               exact Fin.bs I C aJ (aG.all _) ⟨rfl,rfl⟩)
theorem zJ (gen:Int) (l:List ak) (v:Nat):∀ (ms:List h9) (i:Nat),(rT gen l v i ms).length≤ms.length
  | [],_=>g8 _
  | m::r,i=>by
    have:=zJ gen l v r (i+1);rw [rT];split<;>simp<;>omega
def Cl (p:bT) (n:Int) (l:List ak):Prop:=∀ m∈p.methods,m.gen=n→Ck l m.fact
theorem PG (p:bT) (aF:ga p) (dk:gA p=true) (n:Int) (l:List ak) (vs:ag) (an cb cr:Nat) (fq:l.length≤7) (cX:iD (ca p) l) (gh:Cl p n l) (v:Nat) (aw:v<2^63) :
  bA d0 81 [.ptr cr 0,.int .i64 (v:Int)] [eo p n (dd l) vs an cb cr] (fun o K=>o = .ret (bd (dp p n l v))∧K=[eo p n (dd l) vs an cb cr]):=by
 have lD:bC=1099511627776:=rfl;obtain ⟨vG,PE⟩:=uk dk;have Z0:=fun f U ad=>ZZ p n l vs an cb cr (ca p) fq cX v aw f.size f (g8 _) U ad
 refine bA.bh ah Tryz.func81 C C fun s I=>?_
 unfold eo eh at *;refine hD I ?_;intro I;refine ae.h0 I 3 1 0 fun I=>?_
 refine ae.b5 [0,1,12,13] C I (σ:=Nat×List Int×bN) (fun q=>[(14,.int .i64 (q.1:Int)),(5,.aA 1 (q.2.1.map a8) q.2.2)]) (fun q=>[(q.2.2,.row 3 1 q.2.1.length),eo p n (dd l) vs an cb cr]) (fun q=>q.1≤p.methods.length∧q.2.1.length≤q.1∧dp p n l v=q.2.1++rT n l v q.1 (p.methods.drop q.1)) (fun q=>p.methods.length-q.1) (0,[],.nil)
  ⟨g7 _,g8 _,rfl⟩ ⟨⟨_,rfl,aJ⟩,⟨_,rfl,aQ.nil gN⟩,trivial⟩ (by simp only [eo,eh];exact aX) ?_
 rintro ⟨j,out,gl⟩ ⟨aL,fZ,aq⟩ I;simp only [eo,eh] at aL fZ aq I ⊢;refine b7 ?_;refine ae.cond C (fun au=>?_) (fun aV=>?_);rotate_left
 ·have aV:j=p.methods.length:=by simp at aV;omega
  rw [eD af,rT,d6] at aq;rw [aq];refine ez ?_;exact Fin.bs (K:=[eo p n (dd l) vs an cb cr]) I C aQ.bb (by simp only [eo,eh];exact aX) ⟨rfl,rfl⟩
 have au:j<p.methods.length:=by simpa using au
 obtain ⟨m,ab,bL⟩:=b8 (f:=lM) au;have fH:=d5 ab;rw [drop_cons ab,rT] at aq;unfold lM n2 at bL;by_cases av:m.gen=n
 ·have cY:=Z0 m.fact (sr _ _ _ _ (Ch dk fH)) (gh m fH av)
  rw [ak.b6] at cY;unfold ak.cells at cY;rw [av] at bL aq;rw [show decide (n=n)=true by simp,f5] at aq
  repeat (first|(refine wT I ?_;clear I;intro I)|refine aa.eb ah I rfl rfl rfl rfl rfl rfl rfl (fun cH I=>?_))
  refine ae.l5 I 7 cH C .here (fun I=>?_);refine ae.sw I cr (.there .here) ah mixed C ?_;refine c2 ?_;refine aK.split 26 C (fun _=>?_) (fun h=>by simp at h);refine jF ?_;refine aK.xM rfl rfl rfl rfl rfl rfl cY I aX (fun _ _ h=>by obtain ⟨-,rfl⟩:=h;exact ⟨_,.here⟩) ?_ (fun _ _ ⟨h,_⟩ _=>by cases h);rintro _ _ ⟨⟨⟩,rfl⟩ I;simp only [aa',d8] at I ⊢;cases m7:p0 l v m.fact with
  | true=>
   rw [m7,g6 C] at aq;refine c2 ?_;refine aa.fO ah I C C C C C C C di C C C C C C C C aW gY jS af (fun bR I=>?_);refine fj ?_;exact bn.mk (j+1,out++[(j:Int)],.own bR) I ⟨au,by simp;omega,by rw [aq];simp⟩ yK (by show aG _ [(_,.row _ _ (out++[(j:Int)]).length),eo p n (dd l) vs an cb cr] _;rw [f6];exact (by simp only [eo,eh];exact aX)) o9
  | false=>
   rw [m7,f0 ba] at aq;refine j8 ?_;exact bn.mk (j+1,out,gl) I ⟨au,by show out.length≤j+1;omega,aq⟩ cj (by simp only [eo,eh];exact aX) o9
 ·rw [show decide (m.gen=n)=false by simpa using av,f9,f0 ba] at aq
  repeat (first|(refine wT I ?_;clear I;intro I)|refine aa.eb ah I rfl rfl rfl rfl rfl rfl rfl (fun cH I=>?_))
  refine ae.l5 I 7 cH C .here (fun I=>?_);refine ae.sw I cr (.there .here) ah mixed C ?_;refine c2 ?_;refine aK.split 26 C (fun h=>absurd e2 av) (fun _=>?_);refine j8 ?_;exact bn.mk (j+1,out,gl) I ⟨au,by show out.length≤j+1;omega,aq⟩ cj (by simp only [eo,eh];exact aX) o9
mutual
theorem JH:∀ (f:ak) (w:bz) (b:Bool),gH w f=true→∀ l∈ia b f,∀ x∈l,gH w x.1=true∧x.1.c5=true
  | .mk o a p c n ks,w,b,av,l,h,x,ab=>by
    have oD:=av;rw [gH,f8] at oD;rw [ia] at h;split at h
    · split at h
      · cases h
      · rw [H1] at h;subst h;cases ab
    · split at h
      · exact zK ks w _ 0 oD.2 l h x ab
      · split at h
        · rename_i aC
          rw [H1] at h;subst h;rw [H1] at ab;subst ab;exact ⟨av,aC⟩
        · split at h
          · rcases ae'.1 h with h|h
            · exact zK ks w _ 0 oD.2 l h x ab
            · exact zK ks w _ 1 oD.2 l h x ab
          · obtain ⟨u,hu,h⟩:=List.mem_flatMap.1 h
            obtain ⟨v,aw,rfl⟩:=af'.1 h;rcases Ei v u ab with ab|ab
            · exact zK ks w _ 0 oD.2 u hu x ab
            · exact zK ks w _ 1 oD.2 v aw x ab
theorem zK:∀ (ks:List ak) (w:bz) (b:Bool) (n:Nat),j' w ks=true→∀ l∈ir b n ks,∀ x∈l,gH w x.1=true∧x.1.c5=true
  | [],_,b,n,_,l,h,_,_=>by rw [ir] at h;cases h
  | y::r,w,b,0,av,l,h,x,ab=>by
    rw [j',f8] at av;rw [ir] at h;exact JH y w b av.1 l h x ab
  | y::r,w,b,n+1,av,l,h,x,ab=>by
    rw [j',f8] at av;rw [ir] at h;exact zK r w b n av.2 l h x ab
end
theorem Z1 (w:bz) (f:ak) (a7:f.size<bC) (av:gH w f=true) (b:Bool):yL d0 242 [] [.bw f.cells 0,.bw [.bool b] 0] [] qF (ia b f):=by
 intro l Go fJ fQ pF K bk;have eG:∀ dZ,By dZ (l3 l) (fun xs K=>∃ aO,K=aO++[(.own dZ,sD dZ)]∧Go xs aO) (fun K=>∃ aO,K=aO++[(.own dZ,sD dZ)]∧fJ aO) (fun v K=>∃ aO,K=aO++[(.own dZ,sD dZ)]∧fQ v aO):=fun dZ=>by
  refine ⟨rfl,fun x rem K ⟨aO,e,av⟩=>?_,fun xs K ⟨aO,e,_⟩=>⟨aO++[],by subst e;exact bo.app aO .here⟩,fun K ⟨aO,e,_⟩=>⟨aO++[],by subst e;exact bo.app aO .here⟩⟩;subst e;refine dA.frame (R:=[(.own dZ,sD dZ)]) (pF x rem aO av) (aG.jH (aG.dB aO)) ?_;rintro o lR (⟨rfl,h⟩|⟨rfl,h⟩|⟨v,rfl,h⟩)
  ·exact .inl ⟨rfl,lR,rfl,h⟩
  ·exact .inr (.inl ⟨rfl,lR,rfl,h⟩)
  ·exact .inr (.inr ⟨v,rfl,lR,rfl,h⟩)
 have hw:=fun dZ=>dA.fx (first:=[]) (args:=[f.bK,.bool b,l3 l]) (cap:=[.ptr dZ 0]) (W7 w dZ f.size f (g8 _) a7 av b (l3 l) _ _ _ (eG dZ) [] (K++[(.own dZ,sD dZ)]) ⟨K,rfl,by rw [d6];exact bk⟩)
 rw [ak.b6] at hw;refine bA.bh ah Tryz.func242 C C fun s I=>?_
 rw [d8] at I ⊢;unfold ak.cells;unfold ak.cells at hw
 repeat (first|(refine Ue I ?_;clear I;intro I)|refine aa.eb ah I rfl rfl rfl rfl rfl rfl rfl (fun cH I=>?_))
 refine aa.gM C C C C C C (hw cH) I (aG.iA (aw8 _ _).symm) ?_ ?_
 ·rintro x _ (⟨⟨⟩,lR,rfl,h⟩|⟨⟨⟩,lR,rfl,h⟩|⟨_,⟨⟩,_⟩) I
  all_goals rw [d6] at I ⊢
  ·refine gr ?_
   exact Fin.bs I C aJ (aG.jH (aG.dB lR)) (.inl ⟨rfl,.inl h⟩)
  ·refine gr ?_
   exact Fin.bs I C aJ (aG.jH (aG.dB lR)) (.inl ⟨rfl,.inr h⟩)
 ·rintro x _ (⟨h,_⟩|⟨h,_⟩|⟨v,⟨⟩,lR,rfl,h⟩) I
  ·cases h
  ·cases h
  rw [d6] at I ⊢;exact Fin.fi I aJ (aG.jH (aG.dB lR)) (.inr ⟨_,rfl,h⟩)
theorem Z2 (f:ak) (b:Bool):aT d0 210 [f.bK,.bool b] (.func 242 [] [.bw f.cells 0,.bw [.bool b] 0]):=by
 have an:=bD;refine aT.bh ah Tryz.func210 C C fun s I=>?_
 rw [ak.b6];unfold ak.cells;refine gX ?_;exact bB I
def x2 (w:bz) (f:ak):Bool:=(ia false f).any fun l=>nB w (ev l)
theorem Z3 (w:bz) (hw:gz w) (f:ak) (a7:3*f.size+3<bC) (av:gH w f=true):aT d0 174 [gu w,f.bK] (.bool (x2 w f)):=by
 have an:=bD;refine aT.bh ah Tryz.func174 C C fun s I=>?_
 have aB:=Z2 f false;have oI:=Z1 w f af av false;have Z4:=fun (l:List ch) (h:l∈ia false f)=>Zo w hw l (by have:=(H8 f false l h).1;omega) (fun x ab=>⟨(JH f w false av l h x ab).1,(JH f w false av l h x ab).2⟩)
 rw [ak.b6] at aB ⊢;unfold ak.cells at *;unfold gu fc at *
 repeat (first|(refine Uf I ?_;clear I;intro I)|refine aa.eb ah I rfl rfl rfl rfl rfl rfl rfl (fun cH I=>?_)|(refine qo ?_))
 refine ae.G5 I C du oI .nil (fun rem K=>(∀ l∈rem,l∈ia false f)∧x2 w f=(rem.any fun l=>nB w (ev l))∧K=[(.own cH,.box 4 [.bool false])]) (fun j K=>j = .exit 0∧x2 w f=true∧K=[(.own cH,.box 4 [.bool true])]) (fun _ _=>False) ⟨fun _ h=>h,rfl,rfl⟩ ?_ ?_ ?_ (fun _ _ h=>h.elim)
 ·rintro s₁ l rem K ⟨hm,aD,rfl⟩ I
  have PH:=Z4 l (hm l i6);rw [List.any_cons] at aD;cases Fe:nB w (ev l) with
  | true=>
   rw [Fe] at PH;rw [Fe,ak3] at aD;refine hD I ?_;intro I;exact At.mk _ I (aG.dB _) ⟨rfl,aD,rfl⟩
  | false=>
   rw [Fe] at PH;rw [Fe,ag6] at aD;refine b' ?_;exact At.mk _ I (aG.dB _) ⟨fun l h=>hm l (i0 _ h),aD,rfl⟩
 ·rintro K ⟨_,aD,rfl⟩ I
  have aD:x2 w f=false:=aD;rw [aD];refine cC I ?_;intro I;exact bB I
 ·rintro j K ⟨rfl,aD,rfl⟩ I
  rw [aD];refine cC I ?_;intro I;exact bB I
theorem Z5 (w:bz) (hw:gz w) (f:ak) (a7:3*f.size+3<bC):aT d0 127 [fz w,f.bK] (.cw [.bool (iJ w f&&x2 w f),.int .i64 (if iJ w f then 0 else 2)]):=by
 have an:=bD;refine aT.bh ah Tryz.func127 C C fun s I=>?_
 have U:=HW w hw [f] cV (by intro g av;rw [H1] at av;subst av;omega);rw [ae3,ah1,ak.b6] at U;rw [ak6,ao3,aq5] at U;cases zF:iJ w f with
 | false=>
  rw [zF] at U;rw [ak.b6];unfold fz fE df bd at *;unfold gu fc at *;refine b' ?_;exact bB I
 | true=>
  rw [zF] at U;have ad:=Z3 w hw f a7 (sr f w 12 24 zF);rw [ak.b6] at ad ⊢;unfold fz fE df bd at *;unfold gu fc at *;refine b' ?_;exact bB I
theorem PI (f:ak):fT f f=true:=by unfold fT;simp
theorem Z6 {l:List ak} (f:ak) (h:l.Nodup):(hS l f).Nodup:=by
 unfold hS;split
 ·exact h
 ·rename_i az
  rw [ap4];refine ⟨h,by simp,fun a a6 b an=>?_⟩;rw [H1.1 an];rintro rfl;exact az (ag4.2 ⟨a,a6,PI a⟩)
theorem PJ:∀ (da l:List ak),l.Nodup→(da.foldl hS l).Nodup
 | [],_,h=>h
 | x::r,l,h=>PJ r _ (Z6 x h)
theorem PK (gen:Int):∀ (ms:List h9) (l:List ak),l.Nodup→(ms.foldl (iP gen) l).Nodup
 | [],_,h=>h
 | m::r,l,h=>PK gen r _ (by unfold iP;split;exact PJ _ _ h;exact h)
theorem Z7 (p:bT) (gen:Int):(ct p gen).Nodup:=PK gen _ _ au3
def s5 (f:ak) (b:Bool):ak:=if b then f else f.not
def s6 (v:Nat):Nat→List ak→ak→ak
 | _,[],a=>a
 | i,f::r,a=>s6 v (i+1) r (if i=0 then s5 f (v.testBit i) else a.and (s5 f (v.testBit i)))
def x3 (l:List ak) (v:Nat):ak:=s6 v 0 l (.mk 1 0 [] 0 0 [])
theorem x4 {w:bz} {f:ak} (av:gH w f=true) (aC:f.c5=true):f.kids=[]:=by
 rw [oL,f8] at av;rcases Bv av.1 with ⟨_,h⟩|⟨_,h,_⟩|⟨h,_⟩|⟨h,_⟩
 ·exact h
 ·exact h
 ·unfold ak.c5 at aC;rw [h] at aC;cases aC
 ·unfold ak.c5 at aC;rcases h with h|h<;>(rw [h] at aC;cases aC)
theorem Z8 {f:ak} (aC:f.c5=true):f.op=2∨f.op=3∨f.op=4:=by unfold ak.c5 at aC;simp at aC;omega
theorem PL {f:ak} (aC:f.c5=true) (b:Bool):ia b f=[[(f,b)]]:=by
 have:=Z8 aC;rw [NA,f0 af,f0 af,g6 aC]
theorem Z9 {f:ak} (aC:f.c5=true) (b:Bool):ia false (s5 f b)=[[(f,!b)]]:=by
 cases b with
 | true=>exact PL aC false
 | false=>
  show ia false f.not=_;unfold ak.not;rw [ia,f0 du,g6 C,ir];exact PL aC true
theorem Z' {a x:ak} {nF PM:List ch} (a6:ia false a=[nF]) (ab:ia false x=[PM]):ia false (a.and x)=[jT nF PM]:=by
 unfold ak.and;rw [ia,f0 du,f0 du,f0 (by simp [ak.c5,ak.op]),f0 du,ir,ir,ir,a6,ab];rfl
theorem aaa {nF:List ch} {x:ch} (h:∀ y∈nF,y.1≠x.1):jT nF [x]=nF++[x]:=by
 show rI nF x=_;unfold rI;rw [f0];intro az;obtain ⟨y,ay,ad⟩:=ag4.1 az;exact h y ay (by rw [(WT x y).1 ad])
theorem PN (v:Nat):∀ (l:List ak) (i:Nat) (a:ak) (nF:List ch),(∀ x∈l,x.c5=true)→l.Nodup→(∀ y∈nF,y.1∉l)→(i=0→nF=[])→ia false a=[nF]→ia false (s6 v i l a)=[nF++sR i l v]
  | [],i,a,nF,_,_,_,_,h=>by rw [s6,sR,d6];exact h
  | f::r,i,a,nF,aC,az,ax,bq,h=>by
    rw [List.nodup_cons] at az;have cp:∀ y∈nF++[(f,!v.testBit i)],y.1∉r:=fun y ay=>by
      rcases ae'.1 ay with ay|ay
      · exact fun hm=>ax y ay (i0 _ hm)
      · rw [H1.1 ay];exact az.1
    have e:=Z9 (aC f i6) (v.testBit i);have ar:ia false (if i=0 then s5 f (v.testBit i) else a.and (s5 f (v.testBit i)))=[nF++[(f,!v.testBit i)]]:=by
      split
      · rename_i aR;rw [bq aR,e];rfl
      · rw [Z' h e,aaa]
        intro y ay he;refine ax y ay ?_;rw [he];exact i6
    rw [s6,sR,PN v r (i+1) _ _ (fun x ab=>aC x (i0 _ ab)) az.2 cp af ar,ah0];rfl
theorem aab {l:List ak} (aC:∀ x∈l,x.c5=true) (az:l.Nodup) (v:Nat):ia false (x3 l v)=[qK l v]:=
 PN v l 0 _ [] aC az (fun _ h=>by cases h) (fun _=>rfl) (by rw [ia];simp)
theorem PO {w:bz} {f:ak} (av:gH w f=true) (aC:f.c5=true) {d:Nat} {k:Int} (ax:1≤d) (aE:1≤k):fb w d k f=(true,k-1):=by
 have aac:=x4 av aC;rw [oL,f8] at av;obtain ⟨o,a,p,c,n,ks⟩:=f;rw [fb,f0 cV,g6 av.1];have:ks=[]:=aac;rw [this,hj]
theorem aad {w:bz} {f:ak} {d:Nat} {k m:Int} (h:fb w d (k-1) f=(true,m)) (aE:1≤k):fb w (d+1) k f.not=(true,m):=by
 unfold ak.not;rw [fb,f0 cV,g6 (by rfl),aw1,hj,h,g6 C,hj]
theorem aae {w:bz} {f g:ak} {d:Nat} {k m r:Int} (h:fb w d (k-1) f=(true,m)) (ad:fb w d m g=(true,r)) (aE:1≤k):fb w (d+1) k (f.and g)=(true,r):=by
 unfold ak.and;rw [fb,f0 cV,g6 (by rfl),aw1,hj,h,g6 C,hj,ad,g6 C,hj]
theorem PQ {w:bz} {f:ak} (av:gH w f=true) (aC:f.c5=true) (b:Bool) {d:Nat} {k:Int} (ax:2≤d) (aE:2≤k):∃ m,fb w d k (s5 f b)=(true,m)∧k-2≤m:=by
 cases b with
 | true=>exact ⟨k-1,PO av aC af af,by omega⟩
 | false=>
  obtain ⟨e,rfl⟩:∃ e,d=e+1:=⟨d-1,by omega⟩;exact ⟨k-1-1,aad (PO av aC af af) af,by omega⟩
def Cm (w:bz) (i:Nat) (a:ak):Prop:=∀ (d:Nat) (k:Int),i+1≤d→3*(i:Int)≤k→1≤k→∃ m,fb w d k a=(true,m)∧k-(if i=0 then 1 else 3*(i:Int)-1)≤m
theorem Cm.next {w:bz} {i:Nat} {a f:ak} {b:Bool} (h:Cm w i a) (av:gH w f=true) (aC:f.c5=true):Cm w (i+1) (if i=0 then s5 f b else a.and (s5 f b)):=by
 intro d k ax aE mx;split
 ·rename_i bq
  subst bq;obtain ⟨m,U,ad⟩:=PQ av aC b (d:=d) (k:=k) af af;exact ⟨m,U,by simp;omega⟩
 ·rename_i bq
  obtain ⟨e,rfl⟩:∃ e,d=e+1:=⟨d-1,by omega⟩;obtain ⟨m,U,ad⟩:=h e (k-1) af af af;rw [f0 bq] at ad;obtain ⟨r,al,bf⟩:=PQ av aC b (d:=e) (k:=m) af af;exact ⟨r,aae U al af,by rw [f0 af];push_cast;omega⟩
theorem PR {w:bz} (v:Nat):∀ (l:List ak) (i:Nat) (a:ak),iD w l→Cm w i a→Cm w (i+l.length) (s6 v i l a)
  | [],i,a,_,h=>h
  | f::r,i,a,cX,h=>by
    have U:=cX f i6;have:=PR (w:=w) v r (i+1) _ (fun x ab=>cX x (i0 _ ab)) (h.next (b:=v.testBit i) U.1 U.2);rw [s6,g9,show i+(r.length+1)=i+1+r.length by omega];exact this
theorem aaf {w:bz} {l:List ak} (cX:iD w l) (ig:l.length≤7) (v:Nat):iJ w (x3 l v)=true:=by
 have:=PR (w:=w) v l 0 (.mk 1 0 [] 0 0 []) cX (fun d k ax _ mx=>⟨k-1,by
  rw [fb,f0 cV,g6 (by rfl),hj],by simp⟩)
 obtain ⟨m,U,-⟩:=this 12 24 af af af;unfold iJ;show (fb w 12 24 (x3 l v)).1=true;unfold x3;rw [U]
theorem aag {w:bz} {l:List ak} (cX:iD w l) (ig:l.length≤7) (az:l.Nodup) (v:Nat):(iJ w (x3 l v)&&x2 w (x3 l v))=mW w l v:=by
 rw [aaf cX ig,f5];unfold x2 mW;rw [aab (fun x ab=>(cX x ab).2) az];simp
theorem aah (v c:Nat):(((v >>> c &&& 1:Nat):Int)==0) = !v.testBit c:=by
 rw [← BU,Nat.and_one_is_mod];have:v >>> c % 2=0∨v >>> c % 2=1:=by omega
 rcases this with h|h<;>rw [h]<;>rfl
theorem PS (f:ak):f.not.size=1+f.size:=by
 unfold ak.not;rw [ak.size,ak.hN,ak.hN,af6];omega
theorem PT (f g:ak):(f.and g).size=1+f.size+g.size:=by
 unfold ak.and;rw [ak.size,ak.hN,ak.hN,ak.hN,af6];omega
theorem PU (p:bT) (dk:gA p=true) (n:Int) (l:List ak) (vs:ag) (an cb cr:Nat) (fq:l.length≤7) (cX:iD (ca p) l) (e7:l.Nodup) (v:Nat) (aw:v<2^63) :
  bA d0 80 [.ptr cr 0,.int .i64 (v:Int)] [eo p n (dd l) vs an cb cr] (fun o K=>o = .ret (.bool (mW (ca p) l v))∧K=[eo p n (dd l) vs an cb cr]):=by
 have lD:bC=1099511627776:=rfl;have oc:=x1 dk;rw [← aag cX fq e7 v];refine bA.bh ah Tryz.func80 C C fun s I=>?_
 unfold eo eh dd at *
 repeat (first|(refine GU I ?_;clear I;intro I)|refine aa.eb ah I rfl rfl rfl rfl rfl rfl rfl (fun cH I=>?_))
 refine ae.qM I (ak.mk 1 0 [] 0 0 []).cells (kb:=cH) aW (by
  repeat (first|exact cU.nil|refine cU.cons (by first|exact aJ|exact aQ.empty) ?_)) (fun I=>?_)
 obtain ⟨Cn,rfl⟩:∃ x,x=cH:=⟨_,rfl⟩;skip;refine ae.b5 [0,1,5,14,15] C I (σ:=Nat×ak×List ag) (fun q=>[(16,.int .i64 (q.1:Int))]) (fun q=>[(.own Cn,.box 58 q.2.2),eo p n (dd l) vs an cb cr]) (fun q=>cU q.2.2 q.2.1.cells∧q.1≤l.length∧q.2.1.size≤1+6*q.1∧x3 l v=s6 v q.1 (l.drop q.1) q.2.1) (fun q=>l.length-q.1) (0,.mk 1 0 [] 0 0 [],(ak.mk 1 0 [] 0 0 []).cells) ⟨cU.refl _,g7 _,by simp [ak.size,ak.hN],rfl⟩ (cl C) (by simp only [eo,eh,dd];exact aX) ?_;rintro ⟨j,acc,cs⟩ ⟨hle,aL,cc,aq⟩ I;simp only [eo,eh,dd] at hle aL cc aq I ⊢;refine ae.qM I acc.cells (kb:=Cn) aW hle (fun I=>?_);refine b7 ?_;refine ae.cond C (fun au=>?_) (fun aV=>?_);rotate_left
 ·have aV:j=l.length:=by simp at aV;omega
  rw [eD af,s6] at aq;rw [aq];have aB:=Z5 (ca p) oc acc af;rw [ak.b6] at aB;unfold fz fE at aB;refine ae.l5 I 5 Cn C .here (fun I=>?_);cases a7:iJ (ca p) acc with
  | true=>
   rw [a7] at aB;simp only [f5,ag7] at aB ⊢
   repeat (first
    | refine ae.sw I cr .here ah mixed C ?_
    | with_reducible apply ae.seq
    | with_reducible apply b0
    | with_reducible apply kJ
    | with_reducible apply fh
    | with_reducible apply kK
    | with_reducible apply ae.exit)
   refine b' ?_;exact Fin.bs I C aJ (aG.all _) ⟨rfl,rfl⟩
  | false=>
   rw [a7] at aB;simp only [f9,af8,ah'] at aB ⊢
   repeat (first
    | refine ae.sw I cr .here ah mixed C ?_
    | with_reducible apply ae.seq
    | with_reducible apply b0
    | with_reducible apply kJ
    | with_reducible apply fh
    | with_reducible apply kK
    | with_reducible apply ae.exit)
   refine b' ?_;exact Fin.bs I C aJ (aG.all _) ⟨rfl,rfl⟩
 have au:j<l.length:=by simpa using au
 obtain ⟨f,ab,bL⟩:=b8 (f:=ak.bK) au;have r3:=cX f (d5 ab);have t':f.size≤3:=by
  have U:=f.size_eq;have ad:=s4 r3.1 r3.2;have al:=x4 r3.1 r3.2;rw [al,ak.hN] at U;omega
 rw [drop_cons ab,s6] at aq;rw [ak.b6] at bL;have r7:=aah v j;unfold ak.cells at bL I ⊢
 repeat (first|(refine wT I ?_;clear I;intro I)|refine aa.eb ah I rfl rfl rfl rfl rfl rfl rfl (fun cH I=>?_))
 refine aa.shr _ C C C C C C af (tJ af) ?_;refine aa.bits _ C C C C C C (AU (n:=1) (ak1 (ap3 v j) aw) af) ?_;refine gr ?_;cases pB:v.testBit j with
 | true=>
  rw [pB] at r7;rw [pB,show s5 f true=f from rfl] at aq;refine ae.cond C (fun h=>absurd h (by rw [r7];simp)) (fun _=>?_);cases j with
  | zero=>
   rw [g6 C] at aq;refine hD I ?_;intro I;refine bn.mk (1,f,?_) I ?_ (by repeat (first|exact trivial|refine ⟨⟨_,rfl,aJ⟩,?_⟩|refine ⟨⟨_,rfl,aQ.of_eq GZ⟩,?_⟩)) (by simp only [eo,eh,dd,ak.cells];exact aX) (by show l.length-1<l.length-0;omega);refine ⟨?_,au,by show ak.size f≤7;omega,aq⟩;exact cU.refl _
  | succ k=>
   rw [f0 af] at aq;refine hD I ?_;intro I;refine bn.mk (k+2,acc.and f,?_) I ?_ (by repeat (first|exact trivial|refine ⟨⟨_,rfl,aJ⟩,?_⟩|refine ⟨⟨_,rfl,aQ.of_eq DH⟩,?_⟩)) (by simp only [eo,eh,dd];exact aX) (by show l.length-(k+2)<l.length-(k+1);omega)
   refine ⟨?_,au,(by
    have bE:ak.size f≤5:=by omega
    show (acc.and f).size≤1+6*(k+2)
    rw [PT];omega),aq⟩
   show cU _ (acc.and f).cells;unfold ak.and ak.cells;refine .cons aJ (.cons aJ (.cons aQ.empty (.cons aJ (.cons aJ (.one ?_)))));simp only [ak.kids,ae3,ah1,ak.b6];exact aQ.bb
 | false=>
  rw [pB] at r7;rw [pB,show s5 f false=f.not from rfl] at aq;refine ae.cond C (fun _=>?_) (fun h=>absurd h (by rw [r7];simp));refine hD I ?_;intro I
  refine ae.qM I f.not.cells (kb:=cH) aW (by
   unfold ak.not ak.cells
   refine .cons aJ (.cons aJ (.cons aQ.empty (.cons aJ (.cons aJ (.one ?_)))))
   simp only [ak.kids,ae3,ah1,ak.b6]
   exact aQ.bb) (fun I=>?_)
  cases j with
  | zero=>
   rw [g6 C] at aq;refine hD I ?_;intro I;refine bn.mk (1,f.not,?_) I ?_ (by repeat (first|exact trivial|refine ⟨⟨_,rfl,aJ⟩,?_⟩|refine ⟨⟨_,rfl,aQ.of_eq GZ⟩,?_⟩)) (by simp only [eo,eh,dd,ak.cells];exact aX) (by show l.length-1<l.length-0;omega);refine ⟨?_,au,by show ak.size f.not≤7;(rw [PS];omega),aq⟩;exact cU.refl _
  | succ k=>
   rw [f0 af] at aq;refine hD I ?_;intro I;refine bn.mk (k+2,acc.and f.not,?_) I ?_ (by repeat (first|exact trivial|refine ⟨⟨_,rfl,aJ⟩,?_⟩|refine ⟨⟨_,rfl,aQ.of_eq DH⟩,?_⟩)) (by simp only [eo,eh,dd];exact aX) (by show l.length-(k+2)<l.length-(k+1);omega)
   refine ⟨?_,au,(by
    have bE:ak.size f.not≤5:=by (rw [PS];omega)
    show (acc.and f.not).size≤1+6*(k+2)
    rw [PT];omega),aq⟩
   show cU _ (acc.and f.not).cells;unfold ak.and ak.cells;refine .cons aJ (.cons aJ (.cons aQ.empty (.cons aJ (.cons aJ (.one ?_)))));simp only [ak.kids,ae3,ah1,ak.b6];exact aQ.bb
def gf (f:Nat→Bool) (o:Nat):Nat→Nat
 | 0=>0
 | n+1=>gf f o n+(if f (o+n) then 2^n else 0)
theorem mm (f:Nat→Bool) (o:Nat):∀ n,gf f o n<2^n
  | 0=>Nat.one_pos
  | n+1=>by
    have:=mm f o n;rw [gf,ao2];split<;>omega
theorem ph (f:Nat→Bool) (o:Nat):∀ n i,(gf f o n).testBit i=(decide (i<n)&&f (o+i))
  | 0,i=>by rw [gf];simp
  | n+1,i=>by
    have U:=mm f o n;have ad:=ph f o n i;rw [gf];cases a7:f (o+n) with
    | false=>
      rw [f0 ba,ao',ad];rcases as5 i n with h|h|h
      · rw [i7 h,i7 af]
      · subst h;rw [a7];simp
      · rw [ab' af,ab' af]
    | true=>
      rw [g6 C,Nat.add_comm];rcases as5 i n with h|h|h
      · rw [Nat.testBit_two_pow_add_gt h,ad,i7 h,i7 af]
      · subst h
        rw [Nat.testBit_two_pow_add_eq,ad,a7];simp
      · rw [ab' af,f9]
        exact an0 (al2 (show 2^n+gf f o n<2^(n+1) by rw [ao2];omega) (ag2 af af))
theorem Ff {f:Nat→Bool} {o n m:Nat} (hm:m<2^n) (h:∀ i,i<n→m.testBit i=f (o+i)):m=gf f o n:=by
 apply Nat.eq_of_testBit_eq;intro i;rw [ph];by_cases aR:i<n
 ·rw [h i aR,i7 aR,f5]
 ·rw [ab' aR,f9]
  exact an0 (al2 hm (ag2 af af))
def ke (f:Nat→Bool):List Int:=[(gf f 0 64:Int),(gf f 64 64:Int)]
theorem PV (f g:Nat→Bool) (o n:Nat):gf f o n &&& gf g o n=gf (fun u=>f u&&g u) o n:=
 Ff (ak1 av3 (mm f o n)) fun i aR=>by
  rw [al9,ph,ph,i7 aR];rfl
theorem PW (f g:Nat→Bool) (o:Nat):k9 (gf f o 64) (gf g o 64)=gf (fun u=>f u && !g u) o 64:=
 Ff (ak1 av3 (mm f o 64)) fun i aR=>by
  unfold k9;rw [al9,Nat.testBit_xor,ph,ph,i7 aR,show (18446744073709551615:Nat)=2^64-1 by decide,Nat.testBit_two_pow_sub_one,i7 aR];simp
theorem PX (f:Nat→Bool) (o n i:Nat) (aR:i<n):gf f o n|||2^i=gf (fun u=>f u||u==o+i) o n:=
  Ff (Nat.or_lt_two_pow (mm f o n) (ai' af aR)) fun j aL=>by
    rw [Nat.testBit_or,ph,Nat.testBit_two_pow,i7 aL,f5];congr 1;rw [af7,i8,al6];omega
theorem PY {f g:Nat→Bool} {o n:Nat} (h:∀ i,i<n→f (o+i)=g (o+i)):gf f o n=gf g o n:=
 Ff (mm f o n) fun i aR=>by rw [ph,i7 aR,f5,h i aR]
theorem aai {f g:Nat→Bool} (h:ke f=ke g):∀ u,u<128→f u=g u:=by
 unfold ke at h;have U:gf f 0 64=gf g 0 64:=by have:=(as'.inj h).1;omega
 have ad:gf f 64 64=gf g 64 64:=by have:=(as'.inj (as'.inj h).2).1;omega
 intro u hu;by_cases ar:u<64
 ·have a:=ph f 0 64 u
  have b:=ph g 0 64 u;rw [U,b,i7 ar,f5,f5,af5] at a;exact a.symm
 ·have a:=ph f 64 64 (u-64)
  have b:=ph g 64 64 (u-64);rw [ad,b,i7 af,f5,f5,show 64+(u-64)=u by omega] at a;exact a.symm
theorem Co {o:Nat} {f:Nat→Bool} (h:∀ u,f u=false):∀ n,gf f o n=0
 | 0=>rfl
 | n+1=>by rw [gf,Co h n,h,f0 ba]
theorem aaj:ke (fun _=>false)=[0,0]:=by
 unfold ke;rw [Co (fun _=>rfl),Co (fun _=>rfl)];rfl
def lx (f:Nat→Bool):ag := .agg [.int .u64 (gf f 0 64:Nat),.int .u64 (gf f 64 64:Nat)]
theorem PZ {v:Nat} (aw:v<2^40):t7 .i64 (Int.tdiv (v:Int) (aq1 64))=((v / 64:Nat):Int):=by
 rw [show Int.tdiv (v:Int) (aq1 64)=((v / 64:Nat):Int) from rfl];exact dz af af
theorem P0 (v:Nat):Int.tmod (v:Int) (aq1 64)=((v % 64:Nat):Int):=rfl
theorem JI (m c:Nat):(((m >>> c &&& 1:Nat):Int)==1)=m.testBit c:=BU m c
theorem aak (f g:Nat→Bool):aT d0 106 [lx f,lx g] (lx (fun u=>f u&&g u)):=by
 have an:=bD;refine aT.bh ah Tryz.func106 C C fun s I=>?_
 unfold lx
 repeat (first|(refine LD ?_)|refine aa.eb ah I C C C C C C C (fun cH I=>?_))
 refine aa.l9 ah 0 C C C C C C C C C C af ?_;refine dU ?_;refine aa.l9 ah 0 C C C C C C C C C C af ?_;refine dU ?_;refine aa.bits _ C C C C C C (u1 (mm f 0 64) (mm g 0 64)) ?_;refine aa.l9 ah 1 C C C C C C C C C C af ?_;refine dU ?_;refine aa.l9 ah 1 C C C C C C C C C C af ?_;refine dU ?_;refine aa.bits _ C C C C C C (u1 (mm f 64 64) (mm g 64 64)) ?_;rw [PV,PV];refine cC I ?_;intro I;exact Fin.cB I (oH C C (bo.get aW I) C) aJ
theorem aal (f g:Nat→Bool):aT d0 107 [lx f,lx g] (lx (fun u=>f u && !g u)):=by
 have an:=bD;refine aT.bh ah Tryz.func107 C C fun s I=>?_
 unfold lx
 repeat (first|(refine LD ?_)|refine aa.eb ah I C C C C C C C (fun cH I=>?_))
 refine aa.l9 ah 0 C C C C C C C C C C af ?_;refine dU ?_;refine aa.l9 ah 0 C C C C C C C C C C af ?_;refine dU ?_;refine aa.bits _ C C C C C C (DO (mm f 0 64) (mm g 0 64)) ?_;refine aa.l9 ah 1 C C C C C C C C C C af ?_;refine dU ?_;refine aa.l9 ah 1 C C C C C C C C C C af ?_;refine dU ?_;refine aa.bits _ C C C C C C (DO (mm f 64 64) (mm g 64 64)) ?_;rw [PW,PW];refine cC I ?_;intro I;exact Fin.cB I (oH C C (bo.get aW I) C) aJ
theorem aam (f:Nat→Bool) (v:Nat) (aw:v<128):aT d0 151 [lx f,.int .i64 (v:Int)] (.bool (f v)):=by
 have an:=bD;refine aT.bh ah Tryz.func151 C C fun s I=>?_
 unfold lx;have br:=PZ (v:=v) af;have aD:=P0 v;have hm:=Nat.mod_lt v (show 64>0 by omega);by_cases h:v<64
 ·refine bl ?_
  refine aa.l9 ah 0 C C C C C C C C C (by rw [br];omega) af ?_;refine bl ?_;rw [aD];refine aa.shr _ C C C C C C af (tJ hm) ?_;refine aa.bits _ C C C C C C (u1 (n:=1) (ak1 (ap3 _ (v % 64)) (mm f 0 64)) af) ?_;refine er ?_;refine Fin.cB I C (aQ.of_eq (ae7 ag.bool ?_));rw [JI,ph,i7 hm,f5];congr 1;omega
 ·refine bl ?_
  refine aa.l9 ah 1 C C C C C C C C C (by rw [br];omega) af ?_;refine bl ?_;rw [aD];refine aa.shr _ C C C C C C af (tJ hm) ?_;refine aa.bits _ C C C C C C (u1 (n:=1) (ak1 (ap3 _ (v % 64)) (mm f 64 64)) af) ?_;refine er ?_;refine Fin.cB I C (aQ.of_eq (ae7 ag.bool ?_));rw [JI,ph,i7 hm,f5];congr 1;omega
theorem P1 (f:Nat→Bool) (v:Nat) (aw:v<128):aT d0 60 [lx f,.int .i64 (v:Int)] (lx (fun u=>f u||u==v)):=by
 have an:=bD;refine aT.bh ah Tryz.func60 C C fun s I=>?_
 unfold lx;have br:=PZ (v:=v) af;have aD:=P0 v;have hm:=Nat.mod_lt v (show 64>0 by omega);have ih:2^(v % 64)<2^64:=ai' af hm;by_cases h:v<64
 ·have ji:=PX f 0 64 (v % 64) hm
  rw [show (fun u=>f u||u==0+v % 64)=(fun u=>f u||u==v) by funext u;congr 2;omega] at ji;have b2:gf (fun u=>f u||u==v) 64 64=gf f 64 64:=PY fun i aR=>by
   rw [show (64+i==v)=false by simp;omega,am3]
  rw [b2,← ji]
  repeat (first|(refine sk ?_)|refine aa.jC I C C C C C C (fun b I=>?_)|refine aa.eb ah I C C C C C C C (fun cH I=>?_)|(refine LF ?_))
  refine aK.arr ah 0 C C C C C C C C C (by rw [br];omega) af ?_;refine cC I ?_;intro I;rw [aD];refine aK.shl _ C C C C C C af (DP hm) ?_;refine aK.bits _ C C C C C C (wZ (mm f 0 64) ih) ?_;refine aK.arr ah 0 C C C C C C C C C (by rw [br];omega) af ?_;refine cC I ?_;intro I;exact Fin.cB I (oH C C (bo.get aW I) C) aJ
 ·have ji:=PX f 64 64 (v % 64) hm
  rw [show (fun u=>f u||u==64+v % 64)=(fun u=>f u||u==v) by funext u;congr 2;omega] at ji;have b2:gf (fun u=>f u||u==v) 0 64=gf f 0 64:=PY fun i aR=>by
   rw [show (0+i==v)=false by simp;omega,am3]
  rw [b2,← ji]
  repeat (first|(refine sk ?_)|refine aa.jC I C C C C C C (fun b I=>?_)|refine aa.eb ah I C C C C C C C (fun cH I=>?_)|(refine LF ?_))
  refine aK.arr ah 1 C C C C C C C C C (by rw [br];omega) af ?_;refine cC I ?_;intro I;rw [aD];refine aK.shl _ C C C C C C af (DP hm) ?_;refine aK.bits _ C C C C C C (wZ (mm f 64 64) ih) ?_;refine aK.arr ah 1 C C C C C C C C C (by rw [br];omega) af ?_;refine cC I ?_;intro I;exact Fin.cB I (oH C C (bo.get aW I) C) aJ
def Cp (p:bT) (n:Int) (l:List ak) (vs:List Nat):List (ag×ag):=vs.map fun v:Nat=>(.int .i64 (v:Int),bd (dp p n l v))
def ic (vs:List Nat):List ag:=vs.map fun v:Nat => .int .i64 (v:Int)
theorem P2 (g:Nat→ag) (x:ag) (v:Nat):∀ vs:List Nat,v∉vs→lZ (vs.map fun u:Nat=>(.int .i64 (u:Int),g u)) (.int .i64 (v:Int)) x=some ((vs.map fun u:Nat=>(.int .i64 (u:Int),g u))++[(.int .i64 (v:Int),x)])
  | [],_=>rfl
  | u::r,h=>by
    have hu:((v:Int)==(u:Int))=false:=by
      rw [beq_eq_false_iff_ne];intro he;exact h (by rw [show v=u by omega];exact i6)
    rw [ae3,lZ];simp only [kj,ag7,hu,P2 g x v r (fun hm=>h (i0 _ hm)),aa']
theorem Fg (g:Nat→ag) (v:Nat):∀ vs:List Nat,jj (vs.map fun u:Nat=>(.int .i64 (u:Int),g u)) (.int .i64 (v:Int))=some (if vs.contains v then some (g v) else none)
  | []=>rfl
  | u::r=>by
    rw [ae3,jj];by_cases h:u=v
    · subst h
      simp [kj]
    · have hu:((v:Int)==(u:Int))=false:=by
        rw [beq_eq_false_iff_ne];omega
      simp only [kj,ag7,hu,Fg g v r,aq0];rw [show (v==u)=false by rw [beq_eq_false_iff_ne];omega,ag6]
theorem Fh {c:Nat} (h:c≤7):t7 .i64 (1*2^(min (c:Int).toNat (am7 .i64)))=((2^c:Nat):Int):=by
 have U:min (c:Int).toNat (am7 .i64)=c:=by simp [am7];omega
 rw [U];have ad:(1*2^c:Int)=((2^c:Nat):Int):=by push_cast;omega
 have al:2^c<2^63:=ai' af af;rw [ad,G' al]
def pj (w:bz) (l:List ak) (v:Nat):List Nat:=(ag3 v).filter (mW w l)
theorem P3 (w:bz) (l:List ak) (v:Nat):pj w l (v+1)=pj w l v++(if mW w l v then [v] else []):=by
 unfold pj;rw [List.range_succ,List.filter_append,List.filter_cons];rfl
theorem aan (w:bz) (l:List ak) (v:Nat):v∉pj w l v:=fun h=>by
 have:=ak5.1 (ah6.1 h).1;omega
theorem P4 (w:bz) (l:List ak) (v:Nat):(pj w l v).length≤v:=by
 have:=aj2 (mW w l) (ag3 v);rw [ap5] at this;exact this
theorem JJ (p:bT) (aF:ga p) (dk:gA p=true) (n:Int) (l:List ak) (an cb cr:Nat) (fq:l.length≤7) (cX:iD (ca p) l) (e7:l.Nodup) (gh:Cl p n l) :
  bA d0 59 [.ptr cr 0] [eo p n (dd l) (.aA 0 [] .nil) an cb cr,(.own an,.map [])] (fun o K=>o = .ret (.cw [])∧K=[eo p n (dd l) (.aA 1 (ic (hF (ca p) l)) .bb) an cb cr,(.own an,.map (Cp p n l (hF (ca p) l)))]):=by
 have lD:bC=1099511627776:=rfl;have p4:2^l.length≤2^7:=ag2 af fq;have sP:=fun vs v h=>PU p dk n l vs an cb cr fq cX e7 v h
 have zA:=fun vs v h=>PG p aF dk n l vs an cb cr fq cX gh v h
 have y7:hF (ca p) l=pj (ca p) l (2^l.length):=rfl;refine bA.bh ah Tryz.func59 C C fun s I=>?_
 unfold eo eh dd at *;refine cC I ?_;intro I;refine aa.shl ((2^l.length:Nat):Int) C C C C C C af (by rw [d9];exact Fh fq) ?_;refine dG ?_;refine ae.h0 I 3 1 0 fun I=>?_
 refine ae.qM I (eh p n (dd l) (.aA 1 (ic []) .nil) an cb) (kb:=cr) aW (by
  unfold eh dd
  repeat (first|exact cU.nil|refine cU.cons (by first|exact aJ|exact aQ.nil gN) ?_)) (fun I=>?_)
 unfold eh dd at I ⊢;refine ae.b5 [0,8] C I (σ:=Nat×bN) (fun q=>[(9,.int .i64 (q.1:Int))]) (fun q=>[(q.2,.row 3 1 (pj (ca p) l q.1).length),eo p n (dd l) (.aA 1 (ic (pj (ca p) l q.1)) q.2) an cb cr,(.own an,.map (Cp p n l (pj (ca p) l q.1)))]) (fun q=>q.1≤2^l.length) (fun q=>2^l.length-q.1) (0,.nil)
  (g7 _) (cl C) (by simp only [eo,eh,dd];exact aX) ?_
 rintro ⟨v,gl⟩ aw I;simp only [eo,eh,dd,ic,Cp] at aw I ⊢;refine b7 ?_;refine ae.cond C (fun au=>?_) (fun aV=>?_);rotate_left
 ·have aV:v=2^l.length:=Nat.le_antisymm aw (Int.ofNat_le.1 (Int.not_lt.1 (of_decide_eq_false aV)))
  subst aV;rw [y7]
  refine ae.qM I (eh p n (dd l) (.aA 1 (ic (pj (ca p) l (2^l.length))) .bb) an cb) (kb:=cr) aW (by
   unfold eh dd
   repeat (first|exact cU.nil|refine cU.cons (by first|exact aJ|exact aQ.bb) ?_)) (fun I=>?_)
  refine kL ?_;exact Fin.bs I C aJ (by simp only [eo,eh,dd];exact aX) ⟨rfl,rfl⟩
 have au:v<2^l.length:=Int.ofNat_lt.1 (aj' au);have JK:=fun vs=>sP vs v af
 have aao:=fun vs=>zA vs v af
 have vH:=P3 (ca p) l v;have fC:=P4 (ca p) l v;refine bl ?_;refine aa.bX rfl rfl rfl rfl rfl (JK (.aA 1 ((pj (ca p) l v).map fun v:Nat => .int .i64 (v:Int)) gl)) I aX ?_ (fun _ _ ⟨h,_⟩ _=>by cases h);rintro _ _ ⟨⟨⟩,rfl⟩ I;simp only [d8,aa'] at I ⊢;cases xn:mW (ca p) l v with
 | false=>
  rw [xn,f0 ba,d6] at vH;refine bl ?_;exact bn.mk (v+1,gl) I au cj (by simp only [vH];exact aX) (by show 2^l.length-(v+1)<2^l.length-v;omega)
 | true=>
  rw [xn,g6 C] at vH;refine cC I ?_;intro I;refine aa.fO ah I C C C C C C C di C C C C C C C C aW gY jS af (fun bR I=>?_);refine cC I ?_;intro I;have aap:=aao (.aA 1 ((pj (ca p) l v).map (fun v:Nat=>ag.int .i64 (v:Int))++[.int .i64 (v:Int)]) (.own bR));have A5:=P2 (fun v=>bd (dp p n l v)) (bd (dp p n l v)) v _ (aan (ca p) l v);refine ae.nf (dc [(cr,_)]) ah mixed C (bg.run (dc.one (bo.get aW I)) C ?_);refine bg.ni 3 ah (dc.one (bo.get aW I)) C C C C C C C C (fun _ h=>dc.fst h) b1 ?_;refine bg.run (dc.one (bo.get aW I)) C ?_;refine bg.bX rfl rfl rfl rfl rfl rfl rfl aap I aX (fun _ _ h I=>by obtain ⟨-,rfl⟩:=h;exact .inl (dc.one (bo.get .here I))) ?_ (fun _ _ ⟨h,_⟩ _=>by cases h);rintro _ _ ⟨⟨⟩,rfl⟩ I;simp only [d8,aa'] at I ⊢;refine bg.run (dc.one (bo.get aW I)) C ?_;refine bg.nh 8 ah I C C C C (.inl C) C C C C C C aW C A5 (fun _ => .inr C) (fun I=>?_);refine bc.done C ?_;refine gx ?_;exact bn.mk (v+1,.own bR) I au cj (by simp only [vH,ad',ae3,ah1,f6,g9,af6];exact aX) (by show 2^l.length-(v+1)<2^l.length-v;omega)
theorem aaq (l:List ak) (f:ak):(hS l f).any (fun y=>fT y f)=true:=by
 unfold hS;split
 ·assumption
 ·rw [ay2];simp [PI]
theorem aar {l:List ak} {f x:ak} (h:l.any (fun y=>fT y x)=true):(hS l f).any (fun y=>fT y x)=true:=by
 unfold hS;split
 ·exact h
 ·rw [ay2,h];rfl
theorem JL {x:ak}:∀ (da l:List ak),l.any (fun y=>fT y x)=true→(da.foldl hS l).any (fun y=>fT y x)=true
 | [],_,h=>h
 | a::r,l,h=>JL r _ (aar h)
theorem P5 {x:ak}:∀ (da l:List ak),x∈da→(da.foldl hS l).any (fun y=>fT y x)=true
  | a::r,l,h=>by
    rw [ah7];rcases af2.1 h with rfl|h
    · exact JL r _ (aaq l x)
    · exact P5 r _ h
theorem P6 {gen:Int} {x:ak}:∀ (ms:List h9) (l:List ak),l.any (fun y=>fT y x)=true→(ms.foldl (iP gen) l).any (fun y=>fT y x)=true
 | [],_,h=>h
 | m::r,l,h=>P6 r _ (by unfold iP;split;exact JL _ _ h;exact h)
theorem P7 {gen:Int} {x:ak}:∀ (ms:List h9) (l:List ak) (m:h9),m∈ms→m.gen=gen→x∈js m.fact→(ms.foldl (iP gen) l).any (fun y=>fT y x)=true
  | a::r,l,m,h,av,ab=>by
    rw [ah7];rcases af2.1 h with rfl|h
    · exact P6 r _ (by unfold iP;rw [g6 av];exact P5 _ _ ab)
    · exact P7 r _ m h av ab
theorem aas (p:bT) (gen:Int):Cl p gen (ct p gen):=fun m hm av x ab=>P7 p.methods [] m hm av ab
theorem aat {p:bT} {gen:Int} (h:hy p gen=0):gA p=true∧pZ p gen=true∧(ct p gen).length≤7:=by
 unfold hy at h;split at h
 ·rename_i U
  rw [f8] at U;split at h
  ·exact ⟨U.1,U.2,by assumption⟩
  ·omega
 ·omega
theorem Fi {w:bz} {l:List ak} {v:Nat} (h:v∈hF w l):v<2^l.length:=by
 unfold hF at h;exact ak5.1 (ah6.1 h).1
theorem Cq (w:bz) (l:List ak):(hF w l).length≤2^l.length:=by
 unfold hF;have:=aj2 (mW w l) (ag3 (2^l.length));rw [ap5] at this;exact this
end Go.Proofs.YtnafpeohfbglmaaGreat
