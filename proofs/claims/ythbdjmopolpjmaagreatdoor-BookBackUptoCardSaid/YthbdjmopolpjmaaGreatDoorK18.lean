/- Part 18 of the proof. -/
import Derived.Test.YthbdjmopolpjmaaGreatDoorRows
import Derived.Test.YthbdjmopolpjmaaGreatDoorK17
set_option linter.unusedVariables false
set_option linter.unusedSimpArgs false
set_option maxHeartbeats 8000000
set_option maxRecDepth 100000
namespace Go.Proofs.YthbdjmopolpjmaaGreatDoor.C
open Go.RowKit Go.Proofs.YthbdjmopolpjmaaGreatDoorW.PrintWords Go.Proofs.YthbdjmopolpjmaaGreatDoorW.PrintLast Go.Proofs.YthbdjmopolpjmaaGreatDoorW.PrintMore Go.Proofs.YthbdjmopolpjmaaGreatDoor.F Go.Proofs.YthbdjmopolpjmaaGreatDoor.M
theorem aey:∀u:Nat,Num ((Lib.decDigits u).map fun b=>(b.toNat:Int))∧dec 0 ((Lib.decDigits u).map fun b=>(b.toNat:Int))=(u:Int)∧Lib.decDigits u≠[]∧∀t,Lib.decDigits u=48::t→t=[]:=by
 intro u
 induction u using Nat.strongRecOn with
 |ind u ih=>
  have hb:∀d:Nat,d<10→((UInt8.ofNat (48+d)).toNat:Int)=48+(d:Int):=by
   intro d hd;rw[UInt8.toNat_ofNat'];omega
  by_cases h:u<10
  ·rw[Lib.decDigits_one h];refine⟨?_,?_,by simp,fun t ht=>?_⟩
   ·intro c hc;simp only[List.map_cons,List.map_nil,List.mem_cons,List.not_mem_nil,or_false]at hc;rw[hb u h]at hc;omega
   ·simp only[List.map_cons,List.map_nil,dec];rw[hb u h];omega
   ·injection ht with _ ht;exact ht.symm
  ·obtain⟨h1,h2,h3,h4⟩:=ih (u/10) (by omega);rw[Lib.decDigits,dif_neg h,List.map_append];have hd:=hb (u%10) (by omega);refine⟨?_,?_,by simp,fun t ht=>?_⟩
   ·intro c hc;rcases List.mem_append.1 hc with hc|hc
    ·exact h1 c hc
    ·simp only[List.map_cons,List.map_nil,List.mem_cons,List.not_mem_nil,or_false]at hc;rw[hd]at hc;omega
   ·simp only[List.map_cons,List.map_nil];rw[JY,h2,hd];omega
   ·cases hx:Lib.decDigits (u/10)with
    |nil=>exact absurd hx h3
    |cons a r=>
     rw[hx,List.cons_append]at ht;injection ht with ha _;rw[ha]at hx;have hr:=h4 r hx;rw[hx,hr]at h2;simp only[List.map_cons,List.map_nil,dec]at h2;have:(((48:UInt8).toNat:Int))=48:=rfl;rw[this]at h2;omega
theorem wz {n:Int}(h:0≤n):Canon ⟨(Lib.itoa n).toArray⟩∧dv ⟨(Lib.itoa n).toArray⟩=n:=by
 obtain⟨h1,h2,h3,h4⟩:=aey n.toNat
 have e:Lib.itoa n=Lib.decDigits n.toNat:=by
  unfold Lib.itoa;rw[if_neg (by omega)]
 rw[e];obtain⟨ds,hds⟩:∃ds,Lib.decDigits n.toNat=ds:=⟨_,rfl⟩;rw[hds]at h1 h2 h3 h4⊢;have hb:bytesOf ⟨ds.toArray⟩=ds.map fun b=>(b.toNat:Int):=rfl
 have hs:(⟨ds.toArray⟩:ByteArray).size=ds.length:=by rw[←bV]
 refine⟨⟨?_,fun h0=>?_,?_⟩,?_⟩
 ·rw[hs];cases ds with
  |nil=>exact absurd rfl h3
  |cons a r=>simp
 ·rw[hs];cases ds with
  |nil=>exact absurd rfl h3
  |cons a r=>
   rw[←gW,hb]at h0;have h5:((a.toNat:Nat):Int)=48:=h0;have h6:a=48:=UInt8.toNat_inj.1 (by have:(48:UInt8).toNat=48:=rfl;omega);rw[h4 r (by rw[h6])];simp
 ·rw[hb];exact h1
 ·show dec 0 (bytesOf _)=n
  rw[hb,h2];omega
theorem aaI (n:ByteArray):signed (minus n) (body n)=n:=by
 unfold signed body;cases hm:minus n
 ·rfl
 ·rw[if_pos rfl,if_pos rfl];unfold minus at hm;have h:=of_decide_eq_true hm;refine AY ?_;have e1:bytesOf (⟨#[45]⟩++n.extract 1 n.size)=45::bytesOf (n.extract 1 n.size):=by simp[bytesOf,ByteArray.data_append]
  rw[e1,nZ _ _ _ (Nat.le_refl _),List.take_of_length_le (by rw[bytesOf_length];omega)];have h2:=DT n 0 h.1;rw[List.drop_zero]at h2;rw[h2]
  congr 1
  exact h.2.symm
theorem aaF (a b:ByteArray):bytesOf (a++b)=bytesOf a++bytesOf b:=by simp[bytesOf,ByteArray.data_append]
theorem aaN (b:Bool)(t:ByteArray):bytesOf (signed b t)=(if b then[45]else[])++bytesOf t:=by
 unfold signed;cases b
 ·rfl
 ·rw[if_pos rfl,if_pos rfl,aaF];rfl
theorem ahx {q:List Int}(h:Num q):∀c∈q,isD c=true:=fun c hc=>decide_eq_true (h c hc)
theorem adH {s:ByteArray}{p q r:List Int}(h:bytesOf s=p++(q++r))(hq:Num q)(hr:r=[]∨∃c t,r=c::t∧isD c=false):eG s p.length=p.length+q.length:=by
 unfold eG;rw[h,List.drop_left]
 have:∀q:List Int,Num q→(q++r).takeWhile isD=q:=by
  intro q
  induction q with
  |nil=>
   intro _;rcases hr with rfl|⟨c,t,rfl,hc⟩
   ·rfl
   ·rw[List.nil_append,List.takeWhile_cons,hc];rfl
  |cons a q ih=>
   intro hn;rw[List.cons_append,List.takeWhile_cons,ahx hn a List.mem_cons_self,if_pos rfl,ih (fun c hc=>hn c (List.mem_cons_of_mem _ hc))]
 rw[this q hq]
theorem aaJ {s:ByteArray}{p:List Int}{c:Int}{t:List Int}(h:bytesOf s=p++c::t):p.length<s.size∧bt s (p.length:Int)=c:=by
 have hl:=congrArg List.length h;rw[bytesOf_length,List.length_append,List.length_cons]at hl;refine⟨by omega,?_⟩;rw[←gW,h];unfold rd;rw[List.getD_eq_getElem?_getD];simp
theorem aaK {s:ByteArray}{p q r:List Int}(h:bytesOf s=p++(q++r)){t:ByteArray}(ht:bytesOf t=q):s.extract p.length (p.length+q.length)=t:=by
 have hl:=congrArg List.length h;rw[bytesOf_length,List.length_append,List.length_append]at hl;refine AY ?_;rw[nZ _ _ _ (by omega),h,ht,←List.append_assoc,List.take_append_of_le_length (by simp),List.take_of_length_le (by simp),List.drop_left]
theorem acI {s:ByteArray}{l:List Int}(h:bytesOf s=l):s.size=l.length:=by rw[←bytesOf_length,h]
theorem abt {set s:ByteArray}{i:Nat}(h:s.size≤i):hits set s i=false:=by
 unfold hits;rw[decide_eq_false (by omega)];rfl
theorem agD {n d:ByteArray}(h:kL n d):∃f,gp (mf n d)=some f∧FC f (dv (body n)) (dv d)∧f.neg=minus n:=by
 obtain⟨⟨hb,hz⟩,hd,hd0,hg⟩:=h;have hn:bytesOf n=(if minus n then[45]else[])++bytesOf (body n):=by rw[←aaN,aaI]
 obtain⟨p,hp⟩:∃p:List Int,(if minus n then[45]else[])=p:=⟨_,rfl⟩;rw[hp]at hn
 have hpl:p.length=if minus n=true then 1 else 0:=by
  rw[←hp];cases minus n<;>rfl
 have hcb:=hb.canon;have hcd:=hd.canon;have hbl:(bytesOf (body n)).length=(body n).size:=bytesOf_length _;have hbare:∀t,Canon t→eP t=t:=fun t ht=>zH (kV t ht.2.2).1 ht (kV t ht.2.2).2.1
 have hneg:∀(s:ByteArray) (r:List Int),bytesOf s=p++(bytesOf (body n)++r)→hits ⟨#[45]⟩ s 0=minus n:=by
  intro s r hs;rw[ry];cases hm:minus n
  ·rw[hm]at hp;have hp0:p=[]:=hp.symm;rw[hp0,List.nil_append]at hs;cases hb0:bytesOf (body n)with
   |nil=>
    rw[hb0]at hbl;have:=hcb.1;simp at hbl;omega
   |cons a q=>
    rw[hb0,List.cons_append]at hs;have:=aaJ (p:=[]) hs;have ha:=hcb.2.2 a (by rw[hb0];exact List.mem_cons_self);rw[show bt s ((0:Nat):Int)=a from this.2,beq_eq_false_iff_ne.mpr (show a≠((45:UInt8).toNat:Int)by have:((45:UInt8).toNat:Int)=45:=rfl;omega),Bool.and_false]
  ·rw[hm]at hp;have hp0:p=[45]:=hp.symm;rw[hp0]at hs;have:=aaJ (p:=[]) (c:=45) hs;rw[show bt s ((0:Nat):Int)=45 from this.2,decide_eq_true (show 0<s.size from this.1)];rfl
 by_cases h1:(d.toList==[49])=true
 ·have e:mf n d=n:=if_pos h1;rw[e];have hs:bytesOf n=p++(bytesOf (body n)++[]):=by rw[List.append_nil];exact hn
  have hsz:=acI hs;rw[List.append_nil,List.length_append]at hsz;have agZ:=hneg n [] hs;have hrun:=adH hs hcb.2.2 (.inl rfl);have air:=aaK hs (t:=body n) rfl
  have hd1:dv d=1:=by
   have:=(iZ hcd 49 (by decide) (by decide)).1 h1;simpa using this
  refine⟨⟨minus n,body n,0,⟨#[]⟩,false,⟨#[]⟩,false,0⟩,?_,.inr ⟨rfl,0,?_,?_,?_,?_⟩,rfl⟩
  ·unfold gp;simp only[agZ,←hpl,hrun,air];rw[if_neg (by have:=hcb.1;omega),if_neg (by rw[abt (by omega)];simp),if_neg (by rw[abt (by omega)];simp)];unfold nS;rw[if_neg (by rw[abt (by omega)];simp),if_neg (by omega)];rfl
  ·have hb0:eP (⟨#[]⟩:ByteArray)=⟨#[48]⟩:=by
    have:=kV ⟨#[]⟩ num_nil;refine zH this.1 rV (this.2.1.trans ?_);rfl
   refine⟨?_,?_,?_⟩
   ·show lU (eP ⟨#[]⟩)
    rw[hb0];exact⟨by decide,by decide,rV.2.1,rV.2.2⟩
   ·show dv (eP ⟨#[]⟩)≤4096
    rw[hb0];decide
   ·show(0:Int)=(if false=true then _ else dv (eP ⟨#[]⟩))- 0
    rw[if_neg (by simp),hb0];rfl
  ·show¬xg (eP (body n)) 0
   rw[hbare _ hcb];have:=hb.2.1;rintro(h|h|h)
   ·omega
   ·omega
   ·have:=h.2.2;omega
  ·show dv (body n)=dv (eP (body n))*10^(0:Int).toNat
   rw[hbare _ hcb];simp
  ·rw[hd1];rfl
 ·have e:mf n d=n++⟨#[47]⟩++d:=if_neg h1
  have hs:bytesOf (mf n d)=p++(bytesOf (body n)++(47::bytesOf d)):=by
   rw[e,aaF,aaF,hn];simp[bytesOf]
  obtain⟨s,hse⟩:∃s,mf n d=s:=⟨_,rfl⟩;rw[hse]at hs⊢;have hsz:=acI hs;rw[List.length_append,List.length_append,List.length_cons,bytesOf_length d]at hsz;have agZ:=hneg s _ hs;have hrun:=adH hs hcb.2.2 (.inr ⟨47,_,rfl,by decide⟩);have air:=aaK hs (t:=body n) rfl;have hs2:bytesOf s=(p++bytesOf (body n))++47::bytesOf d:=by rw[hs,List.append_assoc]
  have hs3:bytesOf s=(p++bytesOf (body n)++[47])++(bytesOf d++[]):=by rw[hs2];simp
  have h47:=aaJ hs2;have hrun2:=adH hs3 hcd.2.2 (.inl rfl);have agM:=aaK hs3 (t:=d) rfl;have l2:(p++bytesOf (body n)).length=p.length+(bytesOf (body n)).length:=List.length_append;have l3:(p++bytesOf (body n)++[47]).length=p.length+(bytesOf (body n)).length+1:=by simp;omega
  rw[l2]at h47;rw[l3]at hrun2 agM;rw[bytesOf_length d]at hrun2 agM;refine⟨⟨minus n,body n,0,⟨#[]⟩,false,d,true,((p.length+(bytesOf (body n)).length+1:Nat):Int)⟩,?_,.inl ⟨rfl,?_,?_,?_,?_⟩,rfl⟩
  ·unfold gp;simp only[agZ,←hpl,hrun,air];rw[if_neg (by have:=hcb.1;omega),if_pos (by rw[ry,h47.2,decide_eq_true h47.1];rfl),hrun2,if_neg (by have:=hcd.1;omega),agM]
  ·show((eP d).toList==[48])=false
   rw[hbare _ hcd];cases hh:(d.toList==[48])with
   |false=>rfl
   |true=>exact absurd (by rw[MK hh];rfl) hd0
  ·show¬(600<(eP (body n)).size∨600<(eP d).size)
   rw[hbare _ hcb,hbare _ hcd];have:=hb.2.1;have:=hd.2.1;omega
  ·show dv (body n)=dv (eP (body n))
   rw[hbare _ hcb]
  ·show dv d=dv (eP d)
   rw[hbare _ hcd]
theorem abI {n d:ByteArray}(h:kL n d):lW (mf n d) n d 0:=by
 obtain⟨f,hf,hv,hneg⟩:=agD h;obtain⟨⟨hb,hz⟩,hd,hd0,hg⟩:=h;have hsz:=GN (n:=n) (d:=d) ⟨⟨hb,hz⟩,hd,hd0,hg⟩;refine⟨0,.inr (.inr ⟨by omega,f,hf,.inr ⟨_,_,hv,body n,d,⟨hb.canon,hd.canon,by rw[hg];omega,by rw[hg];omega⟩,.inr ⟨?_,?_,rfl,rfl⟩⟩⟩),.inr (.inr ⟨rfl,beq_self_eq_true _,rfl⟩)⟩
 ·have:=hb.2.1;have:=hd.2.1;omega
 ·rw[hneg]
  have:(minus n&&decide (dv (body n)≠0))=minus n:=by
   cases hm:minus n
   ·rfl
   ·rw[decide_eq_true (hz hm)];rfl
  rw[this,aaI]
theorem ab8 {x:iU}(h:iK x=0):Bounds x∧kL x.f2.f0 x.f2.f1∧kL x.f3.f0 x.f3.f1∧x.f6.length≤8:=by
 have hb:Bounds x:=Classical.byContradiction fun hb=>by rw[fG hb]at h;exact absurd h (by decide)
 have hr:kL x.f2.f0 x.f2.f1∧kL x.f3.f0 x.f3.f1:=Classical.byContradiction fun hr=>by rw[lG hb hr]at h;exact absurd h (by decide)
 exact⟨hb,hr.1,hr.2,Jm h⟩
theorem ahC (b:Bool):(((⟨(if b then #[120]else #[43])⟩:ByteArray).toList==[43])=true∨((⟨(if b then #[120]else #[43])⟩:ByteArray).toList==[120])=true)∧((⟨(if b then #[120]else #[43])⟩:ByteArray).toList==[120])=b:=by
 cases b
 ·rw[ByteArray.toList_eq];exact⟨.inl rfl,rfl⟩
 ·rw[ByteArray.toList_eq];exact⟨.inr rfl,rfl⟩
theorem adG {a m:Int}(h:a≤m):mn a m=a:=by
 unfold mn;split<;>omega
theorem aeB {x:iU}(h:iK x=0):oO (parts x) 0 x:=by
 obtain⟨hb,hr,hr2,ht⟩:=ab8 h;unfold Bounds at hb;have c0:=wz (n:=x.f0) (by omega);have c7:=wz (n:=x.f7) (by omega);have c5:=wz (n:=x.f5) (by omega);have hs:=ahC x.f8;have hdrop:(parts x).drop 8=x.f6.map esc:=rfl
 have hlen:(parts x).length=8+x.f6.length:=by
  rw[parts_eq,List.length_append,List.length_map];rfl
 have hx:Nc 1000001 (parts x) x.f2.f0 x.f2.f1 x.f3.f0 x.f3.f1=x:=by
  unfold Nc;rw[hdrop,List.map_map];have e0:mn (dv (pt (parts x) 0)) 1000001=x.f0:=(congrArg (mn · 1000001) c0.2).trans (adG (by omega));have e1:mn (dv (pt (parts x) 1)) 1000001=x.f7:=(congrArg (mn · 1000001) c7.2).trans (adG (by omega));have e2:mn (dv (pt (parts x) 2)) 1000001=x.f5:=(congrArg (mn · 1000001) c5.2).trans (adG (by omega));have e3:((pt (parts x) 3).toList==[120])=x.f8:=hs.2;have e4:(oM (pt (parts x) 4)).1=x.f1:=congrArg Prod.fst (abf x.f1);have e7:(oM (pt (parts x) 7)).1=x.f4:=congrArg Prod.fst (abf x.f4);have e6:x.f6.map ((fun t=>(oM t).1)∘esc)=x.f6:=(List.map_congr_left (fun t _=>congrArg Prod.fst (abf t))).trans (List.map_id _);rw[e0,e1,e2,e3,e4,e7,e6]
 have ho:rJ (parts x):=by
  refine⟨by omega,c0.1,c7.1,c5.1,hs.1,fun i h4 hi h5 h6=>?_⟩
  have agL:∃t,pt (parts x) i=esc t:=by
   by_cases h8:i<8
   ·obtain rfl|rfl:i=4∨i=7:=by omega
    ·exact⟨_,rfl⟩
    ·exact⟨_,rfl⟩
   ·have hm:pt (parts x) i∈x.f6.map esc:=by
     have e:pt (parts x) i=pt ((parts x).drop 8) (i- 8):=by
      unfold pt;rw[List.getD_eq_getElem?_getD,List.getD_eq_getElem?_getD,List.getElem?_drop,show 8+(i- 8)=i by omega]
     rw[e,hdrop];exact xP (by rw[List.length_map];omega)
    obtain⟨t,_,ht⟩:=List.mem_map.1 hm;exact⟨t,ht.symm⟩
  obtain⟨t,ht⟩:=agL;rw[ht,abf]
 exact .inr ⟨ho,x.f2.f0,x.f2.f1,0,abI hr,.inr ⟨rfl,x.f3.f0,x.f3.f1,0,abI hr2,.inr ⟨rfl,by rw[hx,h],fun _=>hx.symm⟩⟩⟩
theorem abH {l:List Int}(h:Num l){c:Int}(hc:c<48):c∉l:=fun hm=>by
 have:=h c hm;omega
theorem ahi (l:List Int){c:Int}(hc:c=9∨c=10):c∉kS l:=by
 intro hm;unfold kS at hm;obtain⟨a,_,ha⟩:=List.mem_flatMap.1 hm;unfold l7 at ha;split at ha
 ·simp at ha;omega
 ·split at ha
  ·simp at ha;omega
  ·split at ha
   ·simp at ha;omega
   ·simp at ha;omega
theorem aeW {n d:ByteArray}(h:kL n d){c:Int}(hc:c=9∨c=10):c∉bytesOf (mf n d):=by
 obtain⟨⟨hb,_⟩,hd,_⟩:=h
 have hn:c∉bytesOf n:=by
  rw[←aaI n,aaN];intro hm;rcases List.mem_append.1 hm with hm|hm
  ·split at hm
   ·simp at hm;omega
   ·simp at hm
  ·exact abH hb.canon.2.2 (by omega) hm
 unfold mf;split
 ·exact hn
 ·rw[aaF,aaF];intro hm;rcases List.mem_append.1 hm with hm|hm
  ·rcases List.mem_append.1 hm with hm|hm
   ·exact hn hm
   ·have:bytesOf (⟨#[47]⟩:ByteArray)=[47]:=rfl;rw[this]at hm;simp at hm;omega
  ·exact abH hd.canon.2.2 (by omega) hm
theorem aeo {x:iU}(h:iK x=0){c:Int}(hc:c=9∨c=10):∀t∈parts x,c∉bytesOf t:=by
 obtain⟨hb,hr,hr2,ht⟩:=ab8 h;unfold Bounds at hb;have c0:=wz (n:=x.f0) (by omega);have c7:=wz (n:=x.f7) (by omega);have c5:=wz (n:=x.f5) (by omega);have he:∀s,c∉bytesOf (esc s):=fun s=>by rw[JQ];exact ahi _ hc
 intro t ht;rw[parts_eq]at ht;rcases List.mem_append.1 ht with ht|ht
 ·simp only[eight,List.mem_cons,List.not_mem_nil,or_false]at ht;rcases ht with rfl|rfl|rfl|rfl|rfl|rfl|rfl|rfl
  ·exact abH c0.1.2.2 (by omega)
  ·exact abH c7.1.2.2 (by omega)
  ·exact abH c5.1.2.2 (by omega)
  ·intro hm;cases hf:x.f8
   ·rw[hf]at hm;have:bytesOf (⟨(if false=true then #[120]else #[43])⟩:ByteArray)=[43]:=rfl;rw[this]at hm;simp at hm;omega
   ·rw[hf]at hm;have:bytesOf (⟨(if true=true then #[120]else #[43])⟩:ByteArray)=[120]:=rfl;rw[this]at hm;simp at hm;omega
  ·exact he _
  ·exact aeW hr hc
  ·exact aeW hr2 hc
  ·exact he _
 ·obtain⟨s,_,rfl⟩:=List.mem_map.1 ht;exact he s
theorem aea (ts:List ByteArray):RY ts=joinL 9 (ts.map bytesOf):=by
 cases ts with
 |nil=>rfl
 |cons t ts=>
  simp only[RY,List.map_cons,joinL,List.flatMap_map]
theorem ah7 (ts:List ByteArray):(ts.map bytesOf).map strOfNums=ts:=by
 rw[List.map_map];exact(List.map_congr_left (fun t _=>iO t)).trans (List.map_id _)
theorem XR (x:iU):parts x≠[]:=by simp[parts]
theorem aep {x:iU}(h:iK x=0):eF 9 (strOfNums (RY (parts x)))=parts x:=by
 unfold eF
 rw[jo _ (aeF _),aea,show(((9:UInt8).toNat:Nat):Int)=9 from rfl,abL _ (by simp[XR]) (fun f hf=>by
  obtain⟨t,ht,rfl⟩:=List.mem_map.1 hf
  exact aeo h (.inl rfl) t ht),ah7]
theorem ahy {x:iU}(h:iK x=0):(10:Int)∉RY (parts x):=by
 have h1:∀ts:List ByteArray,(∀t∈ts,(10:Int)∉bytesOf t)→(10:Int)∉ts.flatMap (fun t=>9::bytesOf t):=by
  intro ts hts hm;obtain⟨t,ht,hm⟩:=List.mem_flatMap.1 hm;rcases List.mem_cons.1 hm with hm|hm
  ·omega
  ·exact hts t ht hm
 have h2:=aeo h (c:=10) (.inr rfl);cases hp:parts x with
 |nil=>exact absurd hp (XR x)
 |cons t ts=>
  rw[hp]at h2;intro hm;rcases List.mem_append.1 hm with hm|hm
  ·exact h2 t List.mem_cons_self hm
  ·exact h1 ts (fun t ht=>h2 t (List.mem_cons_of_mem _ ht)) hm
theorem aby (x:iU)(l:List iU):lines (x::l)=RY (parts x)++10::lines l:=by
 unfold lines;rw[List.flatMap_cons];unfold line;simp
theorem ab9:∀{l:List iU},(∀x∈l,iK x=0)→(gK 10 (lines l)).map strOfNums=l.map (fun x=>strOfNums (RY (parts x)))++[⟨#[]⟩]
 | [],_=>rfl
 |x::l,h=>by
  rw[aby,sV (ahy (h x List.mem_cons_self)),List.map_cons,ab9 (fun y hy=>h y (List.mem_cons_of_mem _ hy))];rfl
theorem aeq:∀{l:List iU} (i:Int),(∀x∈l,iK x=0)→PF (l.map (fun x=>strOfNums (RY (parts x)))++[⟨#[]⟩]) i 0 0 l
 | [],_,_=> .inl ⟨rfl,rfl,rfl,rfl⟩
 |x::l,i,h=>by
  have ih:=aeq (i+1) (fun y hy=>h y (List.mem_cons_of_mem _ hy));have hx:=h x List.mem_cons_self;obtain⟨r,hr⟩:∃r,l.map (fun x=>strOfNums (RY (parts x)))++[⟨#[]⟩]=r:=⟨_,rfl⟩;rw[List.map_cons,List.cons_append,hr];rw[hr]at ih;cases r with
  |nil=>exact absurd hr (by simp)
  |cons u r=>exact⟨0,x,by rw[aep hx];exact aeB hx,.inr ⟨rfl,l,ih,fun _=>rfl⟩⟩
theorem agA {l:List iU}(h:(prt l).2.1=0):oP (prt l).1 0 0 l∧∀x∈l,iK x=0:=by
 have hc:∀x∈l,iK x=0:=by
  refine(UN (i:=0)).1 ?_;cases hb:bad l 0 with
  |none=>rfl
  |some p=>
   obtain⟨e,i⟩:=p
   have he:(prt l).2.1=e:=by
    unfold prt;rw[hb]
   have hne:∀(l:List iU) (j:Int),bad l j=some (e,i)→e≠0:=by
    intro l
    induction l with
    |nil=>intro j hj;cases hj
    |cons x l ih=>
     intro j hj;simp only[bad]at hj;split at hj
     ·exact ih _ hj
     ·next hx=>
      injection hj with hj;injection hj with hj _;rw[←hj];exact hx
   exact absurd (he.symm.trans h) (hne l 0 hb)
 refine⟨?_,hc⟩
 have hp:prt l=if 4096<l.length then(⟨#[]⟩,4,0)else if 65536<(lines l).length then(⟨#[]⟩,4,0)else(strOfNums (lines l),0,0):=by
  unfold prt;rw[UN.2 hc]
 rw[hp]at h⊢
 by_cases h1:4096<l.length
 ·rw[if_pos h1]at h;exact absurd h (by decide)
 ·rw[if_neg h1]at h⊢
  by_cases h2:65536<(lines l).length
  ·rw[if_pos h2]at h;exact absurd h (by decide)
  ·rw[if_neg h2]
   have e:eF 10 (strOfNums (lines l))=l.map (fun x=>strOfNums (RY (parts x)))++[⟨#[]⟩]:=by
    unfold eF;rw[jo _ (afl l),show(((10:UInt8).toNat:Nat):Int)=10 from rfl,ab9 hc]
   refine .inr ⟨by rw[strOfNums_size];omega,by rw[e];simp;omega,l,by rw[e];exact aeq 0 hc,(if_pos rfl).symm⟩
theorem afo:∀{ps:List ByteArray},8≤ps.length→ps=[pt ps 0,pt ps 1,pt ps 2,pt ps 3,pt ps 4,pt ps 5,pt ps 6,pt ps 7]++ps.drop 8
 |_::_::_::_::_::_::_::_::_,_=>rfl
 | [],h=>absurd h (by decide)
 | [_],h=>absurd h (by simp)
 | [_,_],h=>absurd h (by simp)
 | [_,_,_],h=>absurd h (by simp)
 | [_,_,_,_],h=>absurd h (by simp)
 | [_,_,_,_,_],h=>absurd h (by simp)
 | [_,_,_,_,_,_],h=>absurd h (by simp)
 | [_,_,_,_,_,_,_],h=>absurd h (by simp)
theorem aij {t:ByteArray}{c:UInt8}(h:(t.toList==[c])=true):t=⟨#[c]⟩:=by
 have h1:t.toList=[c]:=eq_of_beq h;rw[ByteArray.toList_eq]at h1;refine ByteArray.ext (Array.ext' ?_);exact h1
theorem ae9 {p:ByteArray}(h:(oM p).2=true)(h9:(9:Int)∉bytesOf p)(h10:(10:Int)∉bytesOf p):esc (oM p).1=p:=
 aho (t:=(oM p).1) (by rw[←h]) h9 h10
theorem aeA {ps:List ByteArray}{x:iU}(h:oO ps 0 x)(h9:∀t∈ps,(9:Int)∉bytesOf t)(h10:∀t∈ps,(10:Int)∉bytesOf t):parts x=ps:=by
 obtain⟨hc,ho,n,d,n2,d2,hx,hy,he⟩:=Ll h;obtain⟨hb,_,_,_⟩:=ab8 hc;have hlen:=ho.len;have hm:∀i,i<8→pt ps i∈ps:=fun i hi=>xP (by omega)
 have hop:∀i,i=4∨i=7→esc (oM (pt ps i)).1=pt ps i:=fun i hi=>ae9 (ho.opn i (by omega) (by omega) (by omega) (by omega)) (h9 _ (hm i (by omega))) (h10 _ (hm i (by omega)))
 have ajD:∀(t a b:ByteArray),lW t a b 0→mf a b=t:=by
  intro t a b hx;obtain⟨e0,_,⟨h1,h2⟩|⟨_,_,h2⟩|⟨_,h1,_⟩⟩:=hx
  ·exact absurd h2.symm h1
  ·exact absurd h2 (by decide)
  ·have h3:(mf a b).toList=t.toList:=eq_of_beq h1;rw[ByteArray.toList_eq,ByteArray.toList_eq]at h3;exact ByteArray.ext (Array.ext' h3)
 have agT:∀(t:ByteArray) (v:Int),Canon t→mn (dv t) 1000001=v→v≤1000000→(⟨(Lib.itoa v).toArray⟩:ByteArray)=t:=by
  intro t v ht hv hle;have h0:=fP ht
  have e:v=dv t:=by
   unfold mn at hv;split at hv<;>omega
  have:=wz (n:=v) (by omega);exact zH this.1 ht (this.2.trans e)
 have ajN:((ps.drop 8).map (fun t=>(oM t).1)).map esc=ps.drop 8:=by
  rw[List.map_map];refine(List.map_congr_left (fun t ht=>?_)).trans (List.map_id _);obtain⟨j,hj,rfl⟩:=List.mem_iff_getElem.1 ht;rw[List.length_drop]at hj;rw[List.getElem_drop];have e:ps[8+j]'(by omega)=pt ps (8+j):=(uJ (by omega)).symm
  show esc (oM (ps[8+j]'(by omega))).1=ps[8+j]'(by omega)
  rw[e];have hmem:=xP (ps:=ps) (i:=8+j) (by omega);exact ae9 (ho.opn _ (by omega) (by omega) (by omega) (by omega)) (h9 _ hmem) (h10 _ hmem)
 have ajL:(⟨(if((pt ps 3).toList==[120])=true then #[120]else #[43])⟩:ByteArray)=pt ps 3:=by
  by_cases h1:((pt ps 3).toList==[120])=true
  ·rw[if_pos h1];exact(aij h1).symm
  ·rw[if_neg h1];rcases ho.sign with h2|h2
   ·exact(aij h2).symm
   ·exact absurd h2 h1
 unfold Bounds at hb;rw[he]at hb⊢;have hb1:1≤mn (dv (pt ps 0)) 1000001∧mn (dv (pt ps 0)) 1000001≤4096∧0≤mn (dv (pt ps 1)) 1000001∧mn (dv (pt ps 1)) 1000001≤4096∧0≤mn (dv (pt ps 2)) 1000001∧mn (dv (pt ps 2)) 1000001≤1000000:=hb;have e0:=agT _ _ ho.c0 rfl (by omega);have e1:=agT _ _ ho.c1 rfl (by omega);have e2:=agT _ _ ho.c2 rfl (by omega);refine Eq.trans ?_ (afo hlen).symm
 show[(⟨(Lib.itoa (mn (dv (pt ps 0)) 1000001)).toArray⟩:ByteArray),⟨(Lib.itoa (mn (dv (pt ps 1)) 1000001)).toArray⟩,⟨(Lib.itoa (mn (dv (pt ps 2)) 1000001)).toArray⟩,⟨(if((pt ps 3).toList==[120])=true then #[120]else #[43])⟩,esc (oM (pt ps 4)).1,mf n d,mf n2 d2,esc (oM (pt ps 7)).1]++((ps.drop 8).map (fun t=>(oM t).1)).map esc=_
 rw[e0,e1,e2,ajL,hop 4 (.inl rfl),hop 7 (.inr rfl),ajD _ _ _ hx,ajD _ _ _ hy,ajN]
theorem aaE (c:UInt8)(s:ByteArray):(eF c s).map bytesOf=gK (c.toNat:Int) (bytesOf s):=by
 unfold eF;rw[List.map_map];refine(List.map_congr_left (fun l hl=>?_)).trans (List.map_id _);refine jo l (fun x hx=>?_);exact JP s x (ad3 _ _ (Nat.le_refl _) l hl x hx)
theorem acH {c:UInt8}{s t:ByteArray}(h:t∈eF c s):(c.toNat:Int)∉bytesOf t:=by
 have h1:bytesOf t∈(eF c s).map bytesOf:=List.mem_map_of_mem h;rw[aaE]at h1;exact agE h1
theorem ags {c:UInt8}{s t:ByteArray}(h:t∈eF c s):∀x∈bytesOf t,x∈bytesOf s:=by
 have h1:bytesOf t∈(eF c s).map bytesOf:=List.mem_map_of_mem h;rw[aaE]at h1;exact ad3 _ _ (Nat.le_refl _) _ h1
theorem aeQ:∀{ts:List ByteArray} {i pos:Int} {l:List iU},PF ts i 0 pos l→(∀t∈ts,(10:Int)∉bytesOf t)→lines l=joinL 10 (ts.map bytesOf)∧pos=0∧l.length+1=ts.length∧∀x∈l,iK x=0∧∃t∈ts,parts x=eF 9 t
 | [],_,_,_,h,_=>h.elim
 | [t],i,pos,l,h,_=>by
  rcases h with⟨h0,_,h1,rfl⟩|⟨_,h1,_⟩
  ·refine⟨?_,h1,rfl,fun x hx=>by cases hx⟩;have:bytesOf t=[]:=List.eq_nil_of_length_eq_zero (by rw[bytesOf_length];exact h0);rw[List.map_cons,this];rfl
  ·exact absurd h1 (by decide)
 |t::u::r,i,pos,l,h,h10=>by
  obtain⟨e1,x,hx,⟨h1,h2,_⟩|⟨rfl,l',hp,hl⟩⟩:=h
  ·exact absurd h2.symm h1
  ·obtain⟨k1,k2,k3,k4⟩:=aeQ hp (fun t ht=>h10 t (List.mem_cons_of_mem _ ht));rw[hl rfl];have hpt:=aeA hx (fun q hq=>acH hq) (fun q hq hm=>h10 t List.mem_cons_self (ags hq _ hm));refine⟨?_,k2,by simp at k3⊢;omega,fun y hy=>?_⟩
   ·rw[aby,hpt,aea,aaE,show(((9:UInt8).toNat:Nat):Int)=9 from rfl,abu _ _ (Nat.le_refl _),k1];exact(aaH _ _ _).symm
   ·rcases List.mem_cons.1 hy with rfl|hy
    ·exact⟨(Ll hx).1,t,List.mem_cons_self,hpt⟩
    ·obtain⟨q1,t2,ht2,q2⟩:=k4 y hy;exact⟨q1,t2,List.mem_cons_of_mem _ ht2,q2⟩
theorem agG {s:ByteArray}{pos:Int}{l:List iU}(h:oP s 0 pos l):prt l=(s,0,0)∧l.length≤4096∧∀x∈l,Small x:=by
 rcases h with⟨_,h0,_⟩|⟨hs,hn,l',hp,hl⟩
 ·exact absurd h0 (by decide)
 ·rw[if_pos rfl]at hl;subst hl;obtain⟨k1,k2,k3,k4⟩:=aeQ hp (fun t ht=>acH (c:=10) ht);rw[aaE,show(((10:UInt8).toNat:Nat):Int)=10 from rfl,abu _ _ (Nat.le_refl _)]at k1;refine⟨?_,by omega,fun x hx=>?_⟩
  ·unfold prt;rw[UN.2 (fun x hx=>(k4 x hx).1)]
   show(if 4096<l.length then _ else _)=_
   rw[if_neg (by omega),k1,if_neg (by rw[bytesOf_length];omega),iO]
  ·obtain⟨_,t,ht,hpt⟩:=k4 x hx
   have hsz:∀p∈parts x,p.size≤65536:=by
    intro p hpm;rw[hpt]at hpm;have h1:=qC 9 t p hpm;have h2:=qC 10 s t ht;omega
   have agL:∀p,esc p∈parts x→p.size≤1048576:=by
    intro p hpm;have h1:=hsz _ hpm;have h2:=(uA (bytesOf p)).1;rw[←JQ,bytesOf_length,bytesOf_length]at h2;omega
   refine⟨agL _ ?_,agL _ ?_,fun p hpm=>agL _ ?_⟩
   ·simp[parts]
   ·simp[parts]
   ·rw[parts_eq];exact List.mem_append_right _ (List.mem_map_of_mem hpm)
theorem ahF {ts:List ByteArray}{k:Nat}(h:0<k)(h2:0<ts.length):ts.take k≠[]:=by
 intro he;have h5:(ts.take k).length=0:=by rw[he];rfl
 rw[List.length_take]at h5;omega
theorem aaO (s:ByteArray)(w:World)(hs:s.size≤17592186044416):Calls Tryz.prog 59 #[.string s] w fun e w'=>e= .returned (.string (esc s))∧Below w.heap.size w w':=bz.calls _ s (esc s) w (aeD s hs)
theorem ah9 (x:iU)(A:Option Addr)(c:Nat)(w:World)(hx:Small x)(h0:iK x=0)(hC:Kd.string.C w A x.f6.length x.f6)(hp:Pow w):
  Calls Tryz.prog 26 #[EV x A c] w fun e w'=>e= .returned (.string (strOfNums (line x)))∧Below w.heap.size w w':=by
 have HX:=zM (zA hx (zA h0 hC));have HP:=zM hp;obtain⟨eb,heb⟩:∃eb,w.heap.size=eb:=⟨_,rfl⟩;obtain⟨w0,hw0⟩:∃w0,w.alloc (.cells #[.int .i64 x.f0,.string x.f1,.string x.f2.f0,.string x.f2.f1,.string x.f3.f0,.string x.f3.f1,.string x.f4,.int .i64 x.f5,.slice A x.f6.length c,.int .i64 x.f7,.bool x.f8] 41)=w0:=⟨_,rfl⟩;have hB0:Below w.heap.size w w0:=by rw[←hw0];exact ag (Below.refl _ _) _
 have hE0:w0.heap[eb]?=some (.cells #[.int .i64 x.f0,.string x.f1,.string x.f2.f0,.string x.f2.f1,.string x.f3.f0,.string x.f3.f1,.string x.f4,.int .i64 x.f5,.slice A x.f6.length c,.int .i64 x.f7,.bool x.f8] 41 (0,0)):=by rw[←hw0,←heb];exact bZ w _
 have HB0:=zM (zA hB0 hE0);have yf:=zM heb;obtain⟨vk,vw,vz,vC,vF,vG,vH,Bh,Bi,Bj,nR⟩:=eleven hE0;clear hx h0 hC hp hB0 hE0;go_enter Tryz.func26,Tryz.ntmps26;unfold EV;go_wp2_with fail;refine(Jh x.f2.f0 x.f2.f1 _ (HX.out.1.fits HX.out.2.1).rat.1).mono ?_;rintro e w1 ⟨rfl,hb⟩;have HB1:=zM (zA (ah HB0.out.1 HB0.out.1.size hb) (aT HB0.out.2 hb));clear hb hw0 heb vk vw vz vC vF vG vH Bh Bi Bj nR;obtain⟨vk,vw,vz,vC,vF,vG,vH,Bh,Bi,Bj,nR⟩:=eleven HB1.out.2;go_wp2_with fail;refine(Jh x.f3.f0 x.f3.f1 _ (HX.out.1.fits HX.out.2.1).rat.2).mono ?_;rintro e w2 ⟨rfl,hb⟩;have HB2:=zM (zA (ah HB1.out.1 HB1.out.1.size hb) (aT HB1.out.2 hb));clear hb vk vw vz vC vF vG vH Bh Bi Bj nR;obtain⟨vk,vw,vz,vC,vF,vG,vH,Bh,Bi,Bj,nR⟩:=eleven HB2.out.2;go_upto_if 25 with(fail);go_cut [7] (fun v7 wc=>v7= .string (Yg x.f8)∧wc=w2)
 case first=>
  go_wp2_with fail
  all_goals
   go_meet
   case rel=>exact⟨by simp[Yg, *],rfl⟩
 case rest=>
  obtain⟨rfl,rfl⟩:=hcut;clear HB1;go_upto_region 6 with(fail);have hbd:=(HX.out.1.fits HX.out.2.1).bounds;unfold Bounds at hbd;obtain⟨u1,u2,u3,u4,u5,u6⟩:=hbd;have s1:=HX.out.1.s1;have s4:=HX.out.1.s4;go_cut [8] (fun v8 W=>∃g,v8= .slice (some ⟨g,0,none⟩) 8 8∧Aside0 (Kd.string.R 9 W w.heap.size (fun _=>True) (.slice (some ⟨g,0,none⟩) 8 8) (eight x)∧Below wc.heap.size wc W))
  case first=>
   have hpw:Pow wc:=HP.out.below HB2.out.1;have hdr:Below wc.heap.size wc wc.drew:=dB (Below.refl _ _);have hpd:Pow wc.drew:=hpw.below hdr
   go_region_held3 (fun w'=>w'.cell? ⟨eb,0,none⟩=some (.int .i64 x.f0)∧w'.cell? ⟨eb,1,none⟩=some (.string x.f1)∧w'.cell? ⟨eb,6,none⟩=some (.string x.f4)∧w'.cell? ⟨eb,7,none⟩=some (.int .i64 x.f5)∧w'.cell? ⟨eb,9,none⟩=some (.int .i64 x.f7)∧Pow w'∧Below wc.heap.size wc w')
    (first|(exact⟨vk,vw,vH,Bh,Bj,hpd,hdr⟩)|(go_split_ands;exact⟨cell_later hb (by assumption),cell_later hb (by assumption),cell_later hb (by assumption),cell_later hb (by assumption),cell_later hb (by assumption),Pow.below (by assumption) hb,ah (by assumption) (Below.size (by assumption)) hb⟩)|(go_split_ands;exact⟨cell_later (ag (Below.refl _ _) _) (by assumption),cell_later (ag (Below.refl _ _) _) (by assumption),cell_later (ag (Below.refl _ _) _) (by assumption),cell_later (ag (Below.refl _ _) _) (by assumption),cell_later (ag (Below.refl _ _) _) (by assumption),Pow.below (by assumption) (ag (Below.refl _ _) _),ah (by assumption) (Below.size (by assumption)) (ag (Below.refl _ _) _)⟩))
    (first|((try go_split_ands);go_at_call 31;refine(zW _ _ (by assumption) (by omega) (by omega)).mono ?_;rintro e w3 ⟨rfl,hb⟩)|((try go_split_ands);go_at_call 59;refine(aaO _ _ (by omega)).mono ?_;rintro e w3 ⟨rfl,hb⟩))
   go_split_ands;have hb3:Below wc.heap.size wc (w3.alloc (.cells (encs Value.string (eight x)).toArray 9)):=by assumption
   have hel:eb<(w3.alloc (.cells (encs Value.string (eight x)).toArray 9)).heap.size:=dV (aT HB2.out.2 hb3);have ho:=xM (enc:=Value.string) w3 w.heap.size 9 (eight x) (by rw[yf.out];simp at hel;omega) (by simp[eight]);have hR:Kd.string.R 9 (w3.alloc (.cells (encs Value.string (eight x)).toArray 9)) w.heap.size (fun _=>True) (.slice (some ⟨w3.heap.size,0,none⟩) 8 8) (eight x):=Kd.iR ho (fun _ _=>trivial);have HFin:=zM (zA hR hb3);clear hR ho hb3 hel;go_wp2_with fail;go_meet
   case rel=>exact⟨w3.heap.size,rfl,⟨HFin.out.1,HFin.out.2⟩⟩
  case rest=>
   obtain⟨g8,rfl,HR8⟩:=hcut;have HB3:=zM (zA (ah HB2.out.1 HB2.out.1.size HR8.out.2) (aT HB2.out.2 HR8.out.2));clear HB2 vk vw vz vC vF vG vH Bh Bi Bj nR;go_wp2_with fail;go_loopg [8,9] x.f6.length (fun kq v8 v9 W=>∃m:Int,v9= .int .i64 m∧Aside0 (0≤m∧m≤x.f6.length∧x.f6.length≤m+kq∧Kd.string.R 9 W w.heap.size (fun _=>True) v8 (eight x++(x.f6.take m.toNat).map esc)∧Below w.heap.size w W∧W.heap[eb]?=some (.cells #[.int .i64 x.f0,.string x.f1,.string x.f2.f0,.string x.f2.f1,.string x.f3.f0,.string x.f3.f1,.string x.f4,.int .i64 x.f5,.slice A x.f6.length c,.int .i64 x.f7,.bool x.f8] 41 (0,0))))
   case atStart=>exact⟨0,rfl,⟨by omega,by omega,by omega,by simpa using HR8.out.1,HB3.out.1,HB3.out.2⟩⟩
   case round=>
    obtain⟨m,rfl,HM⟩:=hrel;have HBm:=zM HM.out.2.2.2.2.1;have Bi:=(eleven HM.out.2.2.2.2.2).2.2.2.2.2.2.2.2.1;have HT8:=zM (Jm HX.out.2.1)
    by_cases hm:m<x.f6.length
    ·obtain⟨ad8,e8,htc⟩:=Kd.jI HX.out.2.2 m HM.out.1 hm;cases e8;replace htc:=aI HBm.out htc;obtain⟨tg,htg⟩:∃tg,jg ByteArray.empty x.f6 m=tg:=⟨_,rfl⟩
     have htm:tg∈x.f6∧x.f6.take (m.toNat+1)=x.f6.take m.toNat++[tg]:=by
      have hmn:m.toNat<x.f6.length:=by have:=HM.out.1;omega
      have e:tg=x.f6[m.toNat]:=by rw[←htg];simp[jg,hmn]
      rw[e];exact⟨List.getElem_mem _,List.take_succ_eq_append_getElem hmn⟩
     rw[htg]at htc;have p1:=eq_true HM.out.1;have q1:=eq_true hm;have hdm:=decide_eq_true hm;have HTG:=zM (zA hm htm);obtain⟨wP,rfl⟩:∃k1,gk=k1+1:=⟨gk- 1,by have:=HM.out.2.2.1;omega⟩;clear hm htm htg;go_wp2_with fail;refine(aaO tg _ (by have:=HX.out.1.s6 tg HTG.out.2.1;omega)).mono ?_;rintro e w3 ⟨rfl,hb⟩;have HRk:=zM (Kd.dK HM.out.2.2.2.1 hb);have AU:=zM (zA (ah HBm.out HBm.out.size hb) (aT HM.out.2.2.2.2.2 hb));clear hb htc Bi;go_wp2_with (first|((with_reducible refine bK (b:= .append) (xs:= #[.tmp 52,.tmp 59]) rfl ?_);at_builtin;refine Kd.dZ Kd.string (w0:=w) w.heap.size rfl (.tmp 52) (.tmp 59) 30 9 (.string ⟨#[]⟩) 16 rfl Tryz.underlying30 info9 rfl (by decide) (by omega) u8 (eight x++(x.f6.take m.toNat).map esc) (esc tg) [.string (esc tg)] (fun _=>True) (fun _=>False) rfl rfl ?aP (fun _ hk=>hk.elim) ?aF ?aO ?aB ?aS ?aL ?_;(case aP=>exact rfl);(case aF=>exact(fun _ _=>trivial));(case aO=>exact HRk.out);(case aB=>exact AU.out.1);(case aS=>exact AU.out.1.size);(case aL=>(have h1:=List.length_take_le' m.toNat x.f6;have h2:=HT8.out;have h3:(eight x).length=8:=rfl;rw[List.length_append,List.length_map,h3];omega));intro v1 w4 ho hb hg hat;have HN:=zM (zA ho (zA hb (Q4 AU.out.2 hg (Kd.akm HRk.out AU.out.2 (by decide)))));clear ho hb hg hat));go_roundg wP
     case measure=>omega
     case rel=>
      have hm:=HTG.out.1;have ht:=HT8.out;have h0:=HM.out.1;refine⟨m+1,congrArg (Value.int .i64) (fD (by omega) (by omega)),⟨by omega,by omega,by have:=HM.out.2.2.1;omega,?_,HN.out.2.1,HN.out.2.2⟩⟩;have e:(m+1).toNat=m.toNat+1:=by omega
      rw[e,HTG.out.2.2,List.map_append,←List.append_assoc];exact HN.out.1
    ·have hdm:=zF hm;have he:m.toNat=x.f6.length:=by have:=HM.out.2.1;have:=HM.out.1;omega
     have hR:=HM.out.2.2.2.1;rw[he,List.take_length]at hR;obtain⟨g9,c9,hv9,hc9,hg9,hcl⟩:=Yb (ts:=parts x) hR (XR x);subst hv9;obtain⟨n9,hn9⟩:∃n9,(parts x).length=n9:=⟨_,rfl⟩;have hn16:=(GL HX.out.2.1).1;rw[hn9]at hn16 hc9;rw[hn9];obtain⟨w6,hw6⟩:∃w6,w6=wr:=⟨_,rfl⟩;subst hw6;have HR:=zM (zA hcl (zA hn9 (zA hn16 hg9)));clear hm he hR hcl hc9 hg9 hn9 hn16;go_wp2_with fail;go_loopg [10,11] n9 (fun kq v10 v11 W=>∃i:Int,v11= .int .i64 i∧Aside0 (0≤i∧i≤n9∧n9≤i+kq∧Rb W w6.heap.size v10 (RY ((parts x).take i.toNat))∧Below w6.heap.size w6 W))
     case atStart=>exact⟨0,rfl,⟨by omega,by omega,by omega,Kd.jB _ _ _ _ _,Below.refl _ _⟩⟩
     case round=>
      obtain⟨i,rfl,HI⟩:=hrel
      by_cases hi:i<n9
      ·obtain⟨tt,htt⟩:∃tt,(parts x)[i.toNat]?=some tt:=⟨_,List.getElem?_eq_getElem (by have:=HI.out.1;have:=HR.out.2.1;omega)⟩;have hst:(parts x).take (i.toNat+1)=(parts x).take i.toNat++[tt]:=by rw[List.take_add_one,htt];rfl
       have Cc:=HR.out.1 i.toNat tt htt;rw[Nat.zero_add]at Cc;have cx:=aI HI.out.2.2.2.2 Cc;have htm:tt∈parts x:=List.mem_of_getElem? htt;have hsz:=SQ HX.out.1 HX.out.2.1 tt htm;have hjl:=Z5 ((parts x).take i.toNat) 2097152 (fun t ht=>SQ HX.out.1 HX.out.2.1 t (List.mem_of_mem_take ht))
       have ajz:(RY ((parts x).take i.toNat)).length≤33554448:=by
        have h2:((parts x).take i.toNat).length*(2097152+1)≤16*(2097152+1):=Nat.mul_le_mul_right _ (by rw[List.length_take];have:=HR.out.2.1;have:=HR.out.2.2.1;omega);omega
       have HLE:=zM (show((RY ((parts x).take i.toNat)).length+1)*1≤140737488355328∧(RY ((parts x).take i.toNat)).length+tt.size≤140737488355328∧(RY ((parts x).take i.toNat)++[9]).length+tt.size≤140737488355328 by rw[List.length_append,List.length_singleton];omega);have HT:=zM (zA hi (zA hst htm));have HCX:=zM Cc;clear Cc;have p1:=eq_true HI.out.1;have q1:=eq_true hi;have hd:=decide_eq_true hi;obtain⟨wP,rfl⟩:∃k1,gk=k1+1:=⟨gk- 1,by have:=HI.out.2.2.1;omega⟩
       by_cases hz:0<i
       ·have hz1:=zT hz;have HZ:=zM hz;clear hi htt hst htm hsz hjl ajz hz;go_wp2_with (first|((with_reducible refine bK (b:= .append) (xs:= #[.tmp 69,.tmp 70]) rfl ?_);at_builtin;refine Kd.dZ (Kd.int .u8) (w0:=w6) w6.heap.size rfl (.tmp 69) (.tmp 70) 50 5 (.int .u8 0) 1 rfl Tryz.underlying50 info5 rfl (by decide) (by omega) u10 (RY ((parts x).take i.toNat)) 9 [.int .u8 9] (fun k=>w6.heap.size≤k) (fun _=>False) rfl rfl ?aP (fun _ hk=>hk.elim) ?aF ?aO ?aB ?aS ?aL ?_;(case aP=>exact rfl);(case aF=>exact(fun k hk=>Nat.le_trans HI.out.2.2.2.2.size hk));(case aO=>exact HI.out.2.2.2.1);(case aB=>exact HI.out.2.2.2.2);(case aS=>exact HI.out.2.2.2.2.size);(case aL=>exact HLE.out.1);intro v3 w8 ho hb hg hat;have HN3:=zM (zA ho hb);have zN:=aI hb HCX.out;clear cx ho hb hg hat)|((with_reducible refine bK (b:= .append) (xs:= #[.tmp 72,.tmp 76]) rfl ?_);at_builtin;refine Ad (w0:=w6) w6.heap.size rfl (.tmp 72) (.tmp 76) 50 9 5 rfl Tryz.underlying50 Tryz.underlying9 info5 v3 (RY ((parts x).take i.toNat)++[9]) tt rfl rfl ?aO ?aB ?aS ?aL ?_;(case aO=>exact Kd.jd HN3.out.1);(case aB=>exact HN3.out.2);(case aS=>exact(HN3.out.2).size);(case aL=>exact HLE.out.2.2);intro v4 w9 ho hb hg;have HN4:=zM (zA (show Rb w9 w6.heap.size v4 ((RY ((parts x).take i.toNat)++[9])++bytesOf tt)from Kd.iR ho (fun k hk=>own_base ho k hk)) hb);clear ho hb hg));go_roundg wP
        case measure=>omega
        case rel=>
         have h1:=HT.out.1;have h2:=HR.out.2.2.1;have h3:=HI.out.1;refine⟨i+1,congrArg (Value.int .i64) (fD (by omega) (by omega)),⟨by omega,by omega,by have:=HI.out.2.2.1;omega,?_,HN4.out.2⟩⟩;have e:(i+1).toNat=i.toNat+1:=by omega
         rw[e,HT.out.2.1,aeb,if_neg (ahF (by have:=HZ.out;omega) (by have:=HR.out.2.1;have:=HT.out.1;have:=HI.out.1;omega))];exact HN4.out.1
       ·have hz1:=zF hz;have HZ:=zM hz;clear hi htt hst htm hsz hjl ajz hz;go_wp2_with (first|((with_reducible refine bK (b:= .append) (xs:= #[.tmp 72,.tmp 76]) rfl ?_);at_builtin;refine Ad (w0:=w6) w6.heap.size rfl (.tmp 72) (.tmp 76) 50 9 5 rfl Tryz.underlying50 Tryz.underlying9 info5 u10 (RY ((parts x).take i.toNat)) tt rfl rfl ?aO ?aB ?aS ?aL ?_;(case aO=>exact Kd.jd HI.out.2.2.2.1);(case aB=>exact HI.out.2.2.2.2);(case aS=>exact(HI.out.2.2.2.2).size);(case aL=>exact HLE.out.2.1);intro v4 w9 ho hb hg;have HN4:=zM (zA (show Rb w9 w6.heap.size v4 ((RY ((parts x).take i.toNat))++bytesOf tt)from Kd.iR ho (fun k hk=>own_base ho k hk)) hb);clear ho hb hg));go_roundg wP
        case measure=>omega
        case rel=>
         have h1:=HT.out.1;have h2:=HR.out.2.2.1;have h3:=HI.out.1;refine⟨i+1,congrArg (Value.int .i64) (fD (by omega) (by omega)),⟨by omega,by omega,by have:=HI.out.2.2.1;omega,?_,HN4.out.2⟩⟩;have e:(i+1).toNat=i.toNat+1:=by omega
         rw[e,HT.out.2.1,aeb,if_pos (by have h5:=HI.out.1;have:=HZ.out;rw[show i.toNat=0 by omega];rfl),List.append_nil];exact HN4.out.1
      ·have hd:=zF hi;have he:i.toNat=n9:=by have:=HI.out.1;have:=HI.out.2.1;omega
       have hO:=HI.out.2.2.2.1;rw[he,←HR.out.2.1,List.take_length]at hO;have HO:=zM hO;clear hi he hO;go_wp2_with (first|((with_reducible refine bK (b:= .append) (xs:= #[.tmp 78,.tmp 79]) rfl ?_);at_builtin;refine Kd.dZ (Kd.int .u8) (w0:=w6) w6.heap.size rfl (.tmp 78) (.tmp 79) 50 5 (.int .u8 0) 1 rfl Tryz.underlying50 info5 rfl (by decide) (by omega) u10 (RY (parts x)) 10 [.int .u8 10] (fun k=>w6.heap.size≤k) (fun _=>False) rfl rfl ?aP (fun _ hk=>hk.elim) ?aF ?aO ?aB ?aS ?aL ?_;(case aP=>exact rfl);(case aF=>exact(fun k hk=>Nat.le_trans HI.out.2.2.2.2.size hk));(case aO=>exact HO.out);(case aB=>exact HI.out.2.2.2.2);(case aS=>exact HI.out.2.2.2.2.size);(case aL=>(have:=Ef HX.out.1 HX.out.2.1;omega));intro v3 w8 ho hb hg hat;obtain⟨A2,c2,hv,_,hC2⟩:=Kd.jE ho;subst hv;have hcv:=Kd.yj (P:=Tryz.prog) (c:=c2) (src:=50) (dst:=9) (e:=5) Tryz.underlying50 Tryz.underlying5 Tryz.underlying9 hC2;obtain⟨N6,hN6⟩:∃N,(RY (parts x)++[10]).length=N:=⟨_,rfl⟩;rw[hN6]at hcv;rw[hN6];have HN3:=zM hb;clear ho hb hg hat hC2 hN6));go_ret;exact⟨rfl,ah HBm.out HBm.out.size HN3.out⟩
attribute [local go_sem] max2_int min2_int max_two min_two max_three min_three max_four min_four
theorem abJ (A:Option Addr)(c:Nat)(l:List iU)(w:World)(hC:Kd.C EP w A l.length l)(hc:l.length≤c)(hl:l.length≤1048576)(hs:∀x∈l,Small x)(hp:Pow w):
  Calls Tryz.prog 9 #[.slice A l.length c] w fun e w'=>e= .returned (O1 l)∧Below w.heap.size w w':=by
 have HC:=zM (zA hC (zA hc (zA hl hs)));have HG:=zM hp;have hlm:=eq_true (show l.length≤9223372036854775807 by omega);clear hC hc hl hs hp;go_enter Tryz.func9,Tryz.ntmps9;go_wp2_with fail;go_loopg [5] l.length (fun kq v5 W=>∃i:Int,v5= .int .i64 i∧Aside0 (0≤i∧i≤l.length∧l.length≤i+kq∧(∀j:Nat,(j:Int)<i→iK (aX l (j:Int))=0)∧Below w.heap.size w W))
 case atStart=>exact⟨0,rfl,⟨by omega,by omega,by omega,fun j hj=>by omega,Below.refl _ _⟩⟩
 case round=>
  obtain⟨i,rfl,HJ⟩:=hrel;have lV:=zM HJ.out.2.2.2.2
  by_cases hi:i<l.length
  ·have p0:=HJ.out.1;have q0:=hi;obtain⟨ad,A8,c8,e,hx0,hx1,hx2,hx3,hx4,hx5,hx6,hx7,ZV,hx9,tX,hl8,hi8⟩:=Il HC.out.1 i p0 q0;cases e;replace hx0:=aI lV.out hx0;replace hx1:=aI lV.out hx1;replace hx2:=aI lV.out hx2;replace hx3:=aI lV.out hx3;replace hx4:=aI lV.out hx4;replace hx5:=aI lV.out hx5;replace hx6:=aI lV.out hx6;replace hx7:=aI lV.out hx7;replace ZV:=aI lV.out ZV;replace hx9:=aI lV.out hx9;replace tX:=aI lV.out tX;have HI:=zM hi;clear hi hl8 hi8;have hd:=decide_eq_true q0;replace p0:=eq_true p0;replace q0:=eq_true q0;go_wp2_with fail;refine(U0 (aX l i) A8 c8 _).mono ?_;rintro e w1 ⟨rfl,hb⟩;have HB1:=zM (ah lV.out lV.out.size hb);clear hb hx0 hx1 hx2 hx3 hx4 hx5 hx6 hx7 ZV hx9 tX;obtain⟨cn,hcn⟩:∃cn,iK (aX l i)=cn:=⟨_,rfl⟩;rw[hcn]
   by_cases hcan:cn=0
   ·subst hcan;have YH:=zM hcn;clear hcn;obtain⟨k1,rfl⟩:∃k1,gk=k1+1:=⟨gk- 1,by have:=HJ.out.2.2.1;have:=HI.out;omega⟩;go_wp2_with fail;go_roundg k1
    case measure=>omega
    case rel=>
     have:=HI.out;have:=HC.out.2.2.1;have:=HJ.out.1;refine⟨i+1,congrArg (Value.int .i64) (fD (by omega) (by omega)),⟨by omega,by omega,by have:=HJ.out.2.2.1;omega,fun j hj=>?_,HB1.out⟩⟩
     by_cases hji:(j:Int)=i
     ·rw[hji];exact YH.out
     ·exact HJ.out.2.2.2.1 j (by omega)
   ·have YH:=zM (zA hcn hcan);have hne:(cn !=0)=true:=bne_iff_ne.mpr hcan;clear hcan hcn;go_wp2_with fail;go_ret3;refine⟨?_,HB1.out⟩;obtain⟨j,rfl⟩:∃j:Nat,i=(j:Int):=⟨i.toNat,by have:=HJ.out.1;omega⟩;unfold O1;rw[aaf (j:=j) (by have:=HI.out;omega) (fun k hk=>HJ.out.2.2.2.1 k (by omega)) (by rw[YH.out.1];exact YH.out.2),YH.out.1];rfl
  ·have hd:=zF hi;have he:i=l.length:=by have:=HJ.out.2.1;omega
   have JD:=zM (show∀k:Nat,k<l.length→iK (aX l (k:Int))=0 from fun k hk=>HJ.out.2.2.2.1 k (by omega));clear hi he
   by_cases hm:4096<l.length
   ·have hm1:=zT hm;have hm2:decide ((4096:Int)<(l.length:Int))=true:=decide_eq_true (by omega);have HM:=zM hm;clear hm;go_wp2_with fail;go_ret3;refine⟨?_,lV.out⟩;unfold O1;rw[XW JD.out HM.out];rfl
   ·have hm1:=zF hm;have hm2:decide ((4096:Int)<(l.length:Int))=false:=decide_eq_false (by omega);have Hy:=zM hm;clear hm HJ;obtain⟨wa,hwa⟩:∃wa,wa=wr:=⟨_,rfl⟩;subst hwa;go_wp2_with fail;go_loopg [7,8] l.length (fun kq v7 v8 W=>∃i:Int,v8= .int .i64 i∧Aside0 (0≤i∧i≤l.length∧l.length≤i+kq∧Rb W w.heap.size v7 (lines (l.take i.toNat))∧(lines (l.take i.toNat)).length≤65536∧Below w.heap.size w W))
    case atStart=>exact⟨0,rfl,⟨by omega,by omega,by omega,Kd.jB _ _ _ _ _,by simp[lines],lV.out⟩⟩
    case round=>
     clear lV;obtain⟨i,rfl,HJ⟩:=hrel;have lV:=zM HJ.out.2.2.2.2.2
     by_cases hi:i<l.length
     ·have p0:=HJ.out.1;have q0:=hi;obtain⟨ad,A8,c8,e,hx0,hx1,hx2,hx3,hx4,hx5,hx6,hx7,ZV,hx9,tX,hl8,hi8⟩:=Il HC.out.1 i p0 q0;cases e;replace hx0:=aI lV.out hx0;replace hx1:=aI lV.out hx1;replace hx2:=aI lV.out hx2;replace hx3:=aI lV.out hx3;replace hx4:=aI lV.out hx4;replace hx5:=aI lV.out hx5;replace hx6:=aI lV.out hx6;replace hx7:=aI lV.out hx7;replace ZV:=aI lV.out ZV;replace hx9:=aI lV.out hx9;replace tX:=aI lV.out tX;have HI:=zM (zA hi (zA hl8 hi8));clear hi hl8 hi8;have hd:=decide_eq_true q0;replace p0:=eq_true p0;replace q0:=eq_true q0;obtain⟨k1,rfl⟩:∃k1,gk=k1+1:=⟨gk- 1,by have:=HJ.out.2.2.1;have:=HI.out.1;omega⟩;have HX:=zM (zA (HC.out.2.2.2 _ (Pq HJ.out.1 HI.out.1)) (show iK (aX l i)=0 from by have h0:=HJ.out.1;have h1:=JD.out i.toNat (by have:=HI.out.1;omega);rwa [Int.toNat_of_nonneg h0]at h1));go_wp2_with fail;refine(ah9 (aX l i) A8 c8 _ HX.out.1 HX.out.2 (Kd.ji HI.out.2.2 lV.out) (HG.out.below lV.out)).mono ?_;rintro e w3 ⟨rfl,hb⟩;have HOo:=zM (Kd.jd (Kd.dK HJ.out.2.2.2.1 hb));have HB3:=zM (ah lV.out lV.out.size hb);obtain⟨ln,hln⟩:∃ln,strOfNums (line (aX l i))=ln:=⟨_,rfl⟩;have hlb:bytesOf ln=line (aX l i):=by rw[←hln];exact jo _ (adV _)
      have hls:ln.size≤33554449:=by
       rw[←bytesOf_length,hlb];unfold line;rw[List.length_append];have:=Ef HX.out.1 HX.out.2;simp;omega
      rw[hln];have HLn:=zM (zA hlb hls);clear hb hx0 hx1 hx2 hx3 hx4 hx5 hx6 hx7 ZV hx9 tX hln hlb hls;go_upto_region 14 with(first|((with_reducible refine bK (b:= .append) (xs:= #[.tmp 33,.tmp 38]) rfl ?_);at_builtin;refine Ad (w0:=w) w.heap.size rfl (.tmp 33) (.tmp 38) 50 9 5 rfl Tryz.underlying50 Tryz.underlying9 info5 u7 (lines (l.take i.toNat)) ln rfl rfl ?aO ?aB ?aS ?aL ?_;(case aO=>exact HOo.out);(case aB=>exact HB3.out);(case aS=>exact HB3.out.size);(case aL=>(have:=HJ.out.2.2.2.2.1;have:=HLn.out.2;omega));intro v1 w4 ho hb hg;rw[HLn.out.1]at ho;obtain⟨N5,hN5⟩:∃N,(lines (l.take i.toNat)++line (aX l i)).length=N:=⟨_,rfl⟩;obtain⟨A2,c2,hv⟩:=SE ho;rw[hN5]at hv;subst hv;have HN2:=zM (zA (show Rb w4 w.heap.size (.slice A2 N5 c2) (lines (l.take i.toNat)++line (aX l i))from Kd.iR ho (fun k hk=>own_base ho k hk)) (zA hb hN5));clear ho hb hg hN5))
      have abl:lines (l.take i.toNat)++line (aX l i)=lines (l.take (i.toNat+1)):=by
       have h0:=HJ.out.1;have h1:=HI.out.1;rw[Oz l i.toNat (by omega),←xU (by omega),Int.toNat_of_nonneg h0]
      have HL:=zM abl;clear abl
      by_cases h5:65536<N5
      ·have h51:=zT h5;have h52:decide ((65536:Int)<(N5:Int))=true:=decide_eq_true (by omega);have H5:=zM h5;clear h5;go_wp2_with fail;go_ret3;refine⟨?_,HN2.out.2.1⟩;unfold O1;rw[XV JD.out Hy.out (i.toNat+1) (by have h6:=HN2.out.2.2;rw[HL.out]at h6;rw[h6];exact H5.out)];rfl
      ·have h51:=zF h5;have h52:decide ((65536:Int)<(N5:Int))=false:=decide_eq_false (by omega);have H5:=zM h5;clear h5;go_wp2_with fail;go_roundg k1
       case measure=>omega
       case rel=>
        have h0:=HJ.out.1;have h1:=HI.out.1;have h2:=HC.out.2.2.1;have e:(i+1).toNat=i.toNat+1:=by omega
        have h6:=HN2.out.2.2;have h7:=HN2.out.1;rw[HL.out]at h6 h7;refine⟨i+1,congrArg (Value.int .i64) (fD (by omega) (by omega)),⟨by omega,by omega,by have:=HJ.out.2.2.1;omega,?_,?_,HN2.out.2.1⟩⟩
        ·rw[e,←h6];rw[←h6]at h7;exact h7
        ·rw[e,h6];have:=H5.out;omega
     ·have hd:=zF hi;have he:i.toNat=l.length:=by have:=HJ.out.2.1;have:=HJ.out.1;omega
      have hO:=HJ.out.2.2.2.1;have hO2:=HJ.out.2.2.2.2.1;rw[he,List.take_length]at hO hO2;obtain⟨A2,c2,hv,_,hC2⟩:=Kd.jE hO;subst hv;have hcv:=Kd.yj (P:=Tryz.prog) (c:=c2) (src:=50) (dst:=9) (e:=5) Tryz.underlying50 Tryz.underlying5 Tryz.underlying9 hC2;obtain⟨N6,hN6⟩:∃N,(lines l).length=N:=⟨_,rfl⟩;rw[hN6]at hcv;rw[hN6];have HO:=zM hO2;clear hi he hO hO2 hC2 hN6;go_wp2_with fail;go_ret3;refine⟨?_,lV.out⟩;unfold O1;rw[XX JD.out Hy.out (by have:=HO.out;omega)];rfl
def mark:ByteArray:=⟨#[52,51,50,49]⟩
theorem aaq (xs:List ByteArray)(hx:xs.length≤1048576):∀(d i:Nat),i+d=xs.length→∀k,d<k→bG.l0 k xs xs (i:Int)=some true:=by
 intro d
 induction d with
 |zero=>
  intro i hi k hk;obtain⟨k,rfl⟩:∃m,k=m+1:=⟨k- 1,by omega⟩;simp only[bG.l0];rw[if_neg (by omega)]
 |succ d ih=>
  intro i hi k hk;obtain⟨k,rfl⟩:∃m,k=m+1:=⟨k- 1,by omega⟩;simp only[bG.l0];have hw:wrap64 ((i:Int)+1)=((i+1:Nat):Int):=by rw[fD (by omega) (by omega)];omega
  rw[if_pos (by omega),if_pos (by omega),if_pos (by omega),if_pos True.intro,hw];exact ih (i+1) (by omega) k (by omega)
theorem Yl (xs:List ByteArray)(hx:xs.length≤1048576):bW.f (xs.length+1) xs xs=some true:=by
 have e:∀k (xs:List ByteArray) i,bW.l0 k xs xs i=bG.l0 k xs xs i:=by
  intro k
  induction k with
  |zero=>intro xs i;rfl
  |succ k ih=>intro xs i;simp only[bW.l0,bG.l0,ih]
 unfold bW.f;rw[if_pos rfl,e];exact aaq xs hx xs.length 0 (by omega) _ (by omega)
def behind:iU:=⟨0,mark,⟨⟨#[]⟩,⟨#[]⟩⟩,⟨⟨#[]⟩,⟨#[]⟩⟩,⟨#[]⟩,0,[],0,false⟩
theorem zU (x:iU)(A A2:Option Addr)(c c2:Nat)(w:World)(hC:Kd.string.C w A x.f6.length x.f6)(hc:x.f6.length≤c)(hC2:Kd.string.C w A2 x.f6.length x.f6)(hc2:x.f6.length≤c2)(hl:x.f6.length≤1048576):
  Calls Tryz.prog 35 #[EV x A c,EV x A2 c2] w fun e w'=>e= .returned (.slice none 0 0)∧Below w.heap.size w w':=by
 have HC:=zM (zA hC (zA hc (zA hC2 (zA hc2 hl))));have oV:=zM (ag (ag (Below.refl w.heap.size w) (.cells #[.int .i64 x.f0,.string x.f1,.string x.f2.f0,.string x.f2.f1,.string x.f3.f0,.string x.f3.f1,.string x.f4,.int .i64 x.f5,.slice A x.f6.length c,.int .i64 x.f7,.bool x.f8] 41)) (.cells #[.int .i64 x.f0,.string x.f1,.string x.f2.f0,.string x.f2.f1,.string x.f3.f0,.string x.f3.f1,.string x.f4,.int .i64 x.f5,.slice A2 x.f6.length c2,.int .i64 x.f7,.bool x.f8] 41));have h39:=agB;clear hC hc hC2 hc2 hl;go_enter Tryz.func35,Tryz.ntmps35;unfold EV;go_wp2_with fail;refine(bW.calls (x.f6.length+1) A c x.f6 A2 c2 x.f6 true _ (Kd.ji HC.out.1 oV.out) HC.out.2.1 (Kd.ji HC.out.2.2.1 oV.out) HC.out.2.2.2.1 (Yl x.f6 HC.out.2.2.2.2)).mono ?_;rintro e w1 ⟨rfl,hd⟩;have HD:=zM (ah oV.out (by simp;omega) hd.below);have g9:=cell_later (a:=⟨w.heap.size,9,none⟩) (v:= .int .i64 x.f7) hd.below (by simp);have g10:=cell_later (a:=⟨w.heap.size,10,none⟩) (v:= .bool x.f8) hd.below (by simp);have k9:=cell_later (a:=⟨w.heap.size+1,9,none⟩) (v:= .int .i64 x.f7) hd.below (by simp);have k10:=cell_later (a:=⟨w.heap.size+1,10,none⟩) (v:= .bool x.f8) hd.below (by simp);clear hd;go_wp2_with fail;go_ret;exact⟨rfl,HD.out⟩
theorem GX (A A2:Option Addr)(c c2:Nat)(l:List iU)(w:World)(hC:EP.C w A l.length l)(hc:l.length≤c)(hC2:EP.C w A2 l.length l)(hc2:l.length≤c2)(hl:l.length≤1048576)(ht:∀x∈l,x.f6.length≤1048576):
  Calls Tryz.prog 16 #[.slice A l.length c,.slice A2 l.length c2] w fun e w'=>e= .returned (.bool true)∧Below w.heap.size w w':=by
 have HC:=zM (zA hC (zA hC2 (zA hl ht)));have hlm:=eq_true (show l.length≤9223372036854775807 by omega);clear hC hc hC2 hc2 hl ht;go_enter Tryz.func16,Tryz.ntmps16;go_wp2_with fail;go_loopg [5] l.length (fun kq v5 W=>∃i:Int,v5= .int .i64 i∧Aside0 (0≤i∧i≤l.length∧l.length≤i+kq∧Below w.heap.size w W))
 case atStart=>exact⟨0,rfl,⟨by omega,by omega,by omega,Below.refl _ _⟩⟩
 case round=>
  obtain⟨i,rfl,HJ⟩:=hrel;have lV:=zM HJ.out.2.2.2
  by_cases hi:i<l.length
  ·have p0:=HJ.out.1;have q0:=hi;obtain⟨ada,Aa,ca,ea,ax0,ax1,ax2,ax3,ax4,ax5,ax6,ax7,ax8,ax9,ac8,al8,ai8⟩:=Il HC.out.1 i p0 q0;cases ea;replace ax0:=aI lV.out ax0;replace ax1:=aI lV.out ax1;replace ax2:=aI lV.out ax2;replace ax3:=aI lV.out ax3;replace ax4:=aI lV.out ax4;replace ax5:=aI lV.out ax5;replace ax6:=aI lV.out ax6;replace ax7:=aI lV.out ax7;replace ax8:=aI lV.out ax8;replace ax9:=aI lV.out ax9;replace ac8:=aI lV.out ac8;obtain⟨adb,Ab,cb,eb,bx0,bx1,bx2,bx3,bx4,bx5,bx6,bx7,bx8,bx9,acb,bl8,bi8⟩:=Il HC.out.2.1 i p0 q0;cases eb;replace bx0:=aI lV.out bx0;replace bx1:=aI lV.out bx1;replace bx2:=aI lV.out bx2;replace bx3:=aI lV.out bx3;replace bx4:=aI lV.out bx4;replace bx5:=aI lV.out bx5;replace bx6:=aI lV.out bx6;replace bx7:=aI lV.out bx7;replace bx8:=aI lV.out bx8;replace bx9:=aI lV.out bx9;replace acb:=aI lV.out acb;have HI:=zM (zA hi (zA (Kd.ji ai8 lV.out) (zA al8 (zA (Kd.ji bi8 lV.out) bl8))));obtain⟨k1,rfl⟩:∃k1,gk=k1+1:=⟨gk- 1,by have:=HJ.out.2.2.1;omega⟩;clear hi al8 ai8 bl8 bi8;have hd:=decide_eq_true q0;replace p0:=eq_true p0;replace q0:=eq_true q0;go_upto_region 6 with(fail);go_still_tail 8,(by kernel_rfl)
   change wpList _ _ _ _ _ wr.drew
   have hdr:Below wr.heap.size wr wr.drew:=dB (Below.refl _ _);go_wp2_with fail;refine(zU (aX l i) Aa Ab ca cb _ (Kd.ji HI.out.2.1 hdr) HI.out.2.2.1 (Kd.ji HI.out.2.2.2.1 hdr) HI.out.2.2.2.2 (HC.out.2.2.2 _ (Pq HJ.out.1 HI.out.1))).mono ?_;rintro e w2 ⟨rfl,hb⟩;have hB2:Below wr.heap.size wr w2:=ah hdr hdr.size hb;have HB2:=zM (ah lV.out lV.out.size hB2);replace ax0:=aI hB2 ax0;replace bx0:=aI hB2 bx0;clear hB2 hb hdr ax1 ax2 ax3 ax4 ax5 ax6 ax7 ax8 ax9 ac8 bx1 bx2 bx3 bx4 bx5 bx6 bx7 bx8 bx9 acb;have hne:((aX l i).f0 !=(aX l i).f0)=false:=by simp
   go_upto_region 7 with(fail);go_quiet (fail);go_wp2_with fail;go_roundg k1
   case measure=>omega
   case rel=>
    have h0:=HJ.out.1;have h1:=HI.out.1;have h2:=HC.out.2.2.1;exact⟨i+1,congrArg (Value.int .i64) (fD (by omega) (by omega)),⟨by omega,by omega,by have:=HJ.out.2.2.1;omega,ai HB2.out _⟩⟩
  ·have hd:=zF hi;clear hi;go_wp2_with fail;go_ret;exact⟨rfl,lV.out⟩
theorem Xv (w:World):EP.C (w.alloc (.cells #[.int .i64 1,.string ⟨#[108,101,110,103,116,104]⟩,.string ⟨#[53]⟩,.string ⟨#[49]⟩,.string ⟨#[48]⟩,.string ⟨#[49]⟩,.string ⟨#[109]⟩,.int .i64 3,.slice none 0 0,.int .i64 0,.bool false] 41)) (some ⟨w.heap.size,0,none⟩) 1 [kn]:=by
 refine⟨rfl,by omega,fun _=>⟨_,rfl,fun j p hj=>?_⟩⟩
 have hj0:j=0:=by
  have:=(List.getElem?_eq_some_iff.1 hj).1;simpa using this
 subst hj0;obtain rfl:kn=p:=by simpa using hj
 refine⟨_,?_,adn _ kn (A8:=none) (c8:=0) (Nat.le_refl _) ⟨rfl,by show(0:Nat)≤_;omega,fun h=>absurd h (by show¬(0<0);omega)⟩,fun i u hu=>?_⟩
 ·rfl
 ·rw[add_plain];have hb:=bZ w (.cells #[.int .i64 1,.string ⟨#[108,101,110,103,116,104]⟩,.string ⟨#[53]⟩,.string ⟨#[49]⟩,.string ⟨#[48]⟩,.string ⟨#[49]⟩,.string ⟨#[109]⟩,.int .i64 3,.slice none 0 0,.int .i64 0,.bool false] 41);rw[Nat.zero_mul,Nat.zero_add,aj hb i];rw[←hu];simp only[List.getElem?_toArray];rfl
theorem Ox (w:World)(hg:BI w)(hp:Pow w):Calls Tryz.prog 11 #[] w fun e w'=>e= .returned (.bool true)∧Below w.heap.size w w':=by
 have hb0:=ag (Below.refl w.heap.size w) (.cells #[.int .i64 1,.string ⟨#[108,101,110,103,116,104]⟩,.string ⟨#[53]⟩,.string ⟨#[49]⟩,.string ⟨#[48]⟩,.string ⟨#[49]⟩,.string ⟨#[109]⟩,.int .i64 3,.slice none 0 0,.int .i64 0,.bool false] 41);have HH:=zM (zA hb0 (zA (hg.below hb0) (hp.below hb0)));have HK:=zM (Xv w);clear hg hp hb0;go_enter Tryz.func11,Tryz.ntmps11;go_wp2_with fail;refine(DF _ 1 [kn] _ HK.out (Nat.le_refl _) (by simp) (fun x hx=>by rw[List.mem_singleton.1 hx];exact Xw) HH.out.2.1 HH.out.2.2).mono ?_;rintro e w1 ⟨rfl,hb⟩;have HB:=zM (ah HH.out.1 HH.out.1.size hb);clear hb;have hpv:O1 [kn]= .tuple #[.string ⟨#[49,9,48,9,51,9,43,9,108,101,110,103,116,104,9,53,9,48,9,109,10]⟩,.int .i64 0,.int .i64 0]:=by unfold O1;rw[ads]
 rw[hpv];clear hpv;have hkk:((⟨#[49,9,48,9,51,9,43,9,108,101,110,103,116,104,9,53,9,48,9,109,10]⟩:ByteArray).toList==[49,9,48,9,51,9,43,9,108,101,110,103,116,104,9,53,9,48,9,109,10])=true:=by rw[ByteArray.toList_eq];rfl
 go_wp2_with fail;go_ret;exact⟨rfl,HB.out⟩
structure In (A:Option Addr)(c:Nat)(l:List iU)(w:World):Prop where
 reads:EP.C w A l.length l
 cap:l.length≤c
 len:l.length≤1048576
 small:∀x∈l,Small x
 tags:∀x∈l,x.f6.length≤1048576
theorem Iz:dv ⟨#[49]⟩=1:=rfl
structure FB (w:World)(eb cb:Nat)(W:World)(r1:Bool)(r2 r3:ByteArray)(r4:Bool)(r5:Int)(r6:ByteArray)(r7:Int):Prop where
 bel:Below w.heap.size w W
 e:W.heap[eb]?=some (.cells #[.bool false,.string ⟨#[]⟩,.string ⟨#[]⟩,.bool false,.int .i64 0,.string ⟨#[]⟩,.int .i64 0] 226 (0,0))
 c:W.heap[cb]?=some (.cells #[.bool r1,.string r2,.string r3,.bool r4,.int .i64 r5,.string r6,.int .i64 r7] 226 (0,0))
section
variable {w W W2 : World} {eb cb : Nat} {r1 r4 q1 q4 : Bool} {r2 r3 r6 q2 q3 q6 : ByteArray} {r5 r7 q5 q7 : Int}
theorem FB.below (h:FB w eb cb W r1 r2 r3 r4 r5 r6 r7)(hb:Below W.heap.size W W2):FB w eb cb W2 r1 r2 r3 r4 r5 r6 r7:=⟨ah h.bel h.bel.size hb,aT h.e hb,aT h.c hb⟩
theorem FB.set (h:FB w eb cb W r1 r2 r3 r4 r5 r6 r7)(hn:eb≠cb)(hx:w.heap.size≤cb)(j:Nat)(u:Value)
  (he:(#[.bool r1,.string r2,.string r3,.bool r4,.int .i64 r5,.string r6,.int .i64 r7]:Array Value).setIfInBounds j u= #[.bool q1,.string q2,.string q3,.bool q4,.int .i64 q5,.string q6,.int .i64 q7]):
  FB w eb cb (W.setCell ⟨cb,j,none⟩ u) q1 q2 q3 q4 q5 q6 q7:=
 ⟨h.bel.setCell (p:=⟨cb,j,none⟩) hx _,jm (p:=⟨cb,j,none⟩) h.e hn _,by rw[←he];exact aN h.c j u⟩
end
theorem zi {W:World}{b t:Nat}{v0 v1 v2:Value}(h:W.heap[b]?=some (.cells #[v0,v1,v2] t (0,0))):W.cell? ⟨b,0,none⟩=some v0∧W.cell? ⟨b,1,none⟩=some v1∧W.cell? ⟨b,2,none⟩=some v2:=⟨(aj h 0).trans rfl,(aj h 1).trans rfl,(aj h 2).trans rfl⟩
def EW (x:iU)(v8:Value):Value:= .agg #[.int .i64 x.f0,.string x.f1,.string x.f2.f0,.string x.f2.f1,.string x.f3.f0,.string x.f3.f1,.string x.f4,.int .i64 x.f5,v8,.int .i64 x.f7,.bool x.f8]
theorem fC {W:World}{b:Nat}{cs:Array Value}{t:TypeId}(h:W.heap[b]?=some (.cells cs t (0,0))):
  W.frozen? ⟨b,0,none⟩=false∧W.frozen? ⟨b,1,none⟩=false∧W.frozen? ⟨b,2,none⟩=false∧W.frozen? ⟨b,3,none⟩=false∧W.frozen? ⟨b,4,none⟩=false∧W.frozen? ⟨b,5,none⟩=false∧W.frozen? ⟨b,6,none⟩=false∧W.frozen? ⟨b,7,none⟩=false∧W.frozen? ⟨b,8,none⟩=false∧W.frozen? ⟨b,9,none⟩=false∧W.frozen? ⟨b,10,none⟩=false:=
 ⟨au h 0,au h 1,au h 2,au h 3,au h 4,au h 5,au h 6,au h 7,au h 8,au h 9,au h 10⟩
theorem tN {W:World}{b:Nat}{u0 u1 u2 u3 u4 u5 u6 u7 u8 u9 u10:Value}(h:W.heap[b]?=some (.cells #[u0,u1,u2,u3,u4,u5,u6,u7,u8,u9,u10] 41 (0,0)))(v0 v1 v2 v3 v4 v5 v6 v7 v8 v9 v10:Value):
  (((((((((((W.setCell ⟨b,0,none⟩ v0).setCell ⟨b,1,none⟩ v1).setCell ⟨b,2,none⟩ v2).setCell ⟨b,3,none⟩ v3).setCell ⟨b,4,none⟩ v4).setCell ⟨b,5,none⟩ v5).setCell ⟨b,6,none⟩ v6).setCell ⟨b,7,none⟩ v7).setCell ⟨b,8,none⟩ v8).setCell ⟨b,9,none⟩ v9).setCell ⟨b,10,none⟩ v10).heap[b]?=some (.cells #[v0,v1,v2,v3,v4,v5,v6,v7,v8,v9,v10] 41 (0,0)):=by
 have h:=aN (aN (aN (aN (aN (aN (aN (aN (aN (aN (aN h 0 v0) 1 v1) 2 v2) 3 v3) 4 v4) 5 v5) 6 v6) 7 v7) 8 v8) 9 v9) 10 v10;simpa using h
theorem kN {B:Nat}{w W:World}(h:Below B w W){b:Nat}(hb:B≤b)(v0 v1 v2 v3 v4 v5 v6 v7 v8 v9 v10:Value):
  Below B w (((((((((((W.setCell ⟨b,0,none⟩ v0).setCell ⟨b,1,none⟩ v1).setCell ⟨b,2,none⟩ v2).setCell ⟨b,3,none⟩ v3).setCell ⟨b,4,none⟩ v4).setCell ⟨b,5,none⟩ v5).setCell ⟨b,6,none⟩ v6).setCell ⟨b,7,none⟩ v7).setCell ⟨b,8,none⟩ v8).setCell ⟨b,9,none⟩ v9).setCell ⟨b,10,none⟩ v10):=
 ((((((((((h.setCell hb _).setCell hb _).setCell hb _).setCell hb _).setCell hb _).setCell hb _).setCell hb _).setCell hb _).setCell hb _).setCell hb _).setCell hb _
theorem Ky (W:World){b k:Nat}(hk:k≠b)(v0 v1 v2 v3 v4 v5 v6 v7 v8 v9 v10:Value):
  (((((((((((W.setCell ⟨b,0,none⟩ v0).setCell ⟨b,1,none⟩ v1).setCell ⟨b,2,none⟩ v2).setCell ⟨b,3,none⟩ v3).setCell ⟨b,4,none⟩ v4).setCell ⟨b,5,none⟩ v5).setCell ⟨b,6,none⟩ v6).setCell ⟨b,7,none⟩ v7).setCell ⟨b,8,none⟩ v8).setCell ⟨b,9,none⟩ v9).setCell ⟨b,10,none⟩ v10).heap[k]?=W.heap[k]?:=by
 have e:∀(X:World) (j:Nat) (v:Value),(X.setCell ⟨b,j,none⟩ v).heap[k]?=X.heap[k]?:=fun X j v=>Below.heap_setCell X ⟨b,j,none⟩ v k hk
 rw[e,e,e,e,e,e,e,e,e,e,e]
theorem Ep {w:World}{A:Option Addr}{ps:List ByteArray}(h:Kd.string.C w A ps.length ps)(h0:0<ps.length):∃ad,A=some ad∧∀W,Below w.heap.size w W→∀i,i<ps.length→W.cell? (ad.add i)=some (.string (pt ps i)):=by
 obtain⟨ad,e,_⟩:=Kd.jI h 0 (by omega) (by omega);refine⟨ad,e,fun W hW i hi=>?_⟩;obtain⟨ad2,e2,hc⟩:=Kd.jI h (i:Int) (by omega) (by omega);rw[e]at e2;injection e2 with e2;subst e2;have hc2:w.cell? (ad.add i)=some (.string (pt ps i)):=hc;exact aI hW hc2
theorem add_pos (a:Addr)(n:Nat)(h:0<n):a.add n=⟨a.block,a.off+n,none⟩:=by
 unfold Addr.add;rw[if_neg (by omega)]
theorem DC (a:Addr):a.add 0=a:=by cases a;simp[Addr.add]
def tg (ps:List ByteArray)(i:Nat):List ByteArray:=((ps.take i).drop 8).map (fun t=>(oM t).1)
def Told (ps:List ByteArray)(i:Nat)(done:List iU):Prop:=∀er pos l',PF (ps.drop i) (i:Int) er pos l'→∃l,PF ps 0 er pos l∧(er=0→l=done++l')
theorem MN (ps:List ByteArray):Told ps 0 []:=fun er pos l' h=>⟨l',h,fun _=>rfl⟩
theorem J8 {ps:List ByteArray}{i:Nat}(h:i+1<ps.length):∃u r,ps.drop i=pt ps i::u::r∧ps.drop (i+1)=u::r:=by
 have h1:ps.drop i=ps[i]::ps.drop (i+1):=List.drop_eq_getElem_cons (by omega);have h2:ps.drop (i+1)=ps[i+1]::ps.drop (i+2):=List.drop_eq_getElem_cons h;exact⟨_,_,by rw[h1,h2,uJ (by omega)],h2⟩
theorem drop_one {ps:List ByteArray}{i:Nat}(h:i+1=ps.length):ps.drop i=[pt ps i]:=by
 have h1:ps.drop i=ps[i]::ps.drop (i+1):=List.drop_eq_getElem_cons (by omega);rw[h1,uJ (by omega),List.drop_of_length_le (by omega)]
theorem G7 {ps:List ByteArray}{i:Nat}{done:List iU}{x:iU}(h:Told ps i done)(hi:i+1<ps.length)(hx:oO (eF 9 (pt ps i)) 0 x):Told ps (i+1) (done++[x]):=by
 intro er pos l' hp;obtain⟨u,r,e1,e2⟩:=J8 hi;rw[e2]at hp
 have h1:PF (ps.drop i) (i:Int) er pos (x::l'):=by
  rw[e1];exact⟨0,x,hx,.inr ⟨rfl,l',hp,fun _=>rfl⟩⟩
 obtain⟨l,h2,h3⟩:=h er pos _ h1;exact⟨l,h2,fun he=>by rw[h3 he,List.append_assoc];rfl⟩
theorem EJ {ps:List ByteArray}{i:Nat}{done:List iU}{x:iU}{er:Int}(h:Told ps i done)(hi:i+1<ps.length)(hx:oO (eF 9 (pt ps i)) er x)(he:er≠0):∃l,PF ps 0 er (i:Int) l:=by
 obtain⟨u,r,e1,e2⟩:=J8 hi;obtain⟨l,h2,_⟩:=h er (i:Int) [] (by rw[e1];exact⟨er,x,hx,.inl ⟨he,rfl,rfl⟩⟩);exact⟨l,h2⟩
theorem G8 {ps:List ByteArray}{i:Nat}{done:List iU}(h:Told ps i done)(hi:i+1=ps.length)(ht:(pt ps i).size≠0):∃l,PF ps 0 170 (i:Int) l:=by
 obtain⟨l,h2,_⟩:=h 170 (i:Int) [] (by rw[drop_one hi];exact .inr ⟨ht,rfl,rfl⟩);exact⟨l,h2⟩
theorem MM {ps:List ByteArray}{i:Nat}{done:List iU}(h:Told ps i done)(hi:i+1=ps.length)(ht:(pt ps i).size=0):PF ps 0 0 0 done:=by
 obtain⟨l,h2,h3⟩:=h 0 0 [] (by rw[drop_one hi];exact .inl ⟨ht,rfl,rfl,rfl⟩);rw[List.append_nil]at h3;rw[←h3 rfl];exact h2
theorem J9 (t:ByteArray):∃b,(t.toList==[])=b∧(t.toList !=[])= !b∧(b=true↔t.size=0):=by
 refine⟨_,rfl,rfl,?_⟩;rw[ByteArray.toList_eq];have h:=bV t;cases hh:t.data.toList with
 |nil=>rw[hh]at h;simp at h;simp[←h]
 |cons a b=>
  rw[hh,List.length_cons]at h;exact⟨fun h0=>Bool.noConfusion h0,fun h0=>by omega⟩
def qo (s:ByteArray)(w:World)(e:Ending)(w':World):Prop:=∃v er pos l,e= .returned (.tuple #[v,.int .i64 er,.int .i64 pos])∧oP s er pos l∧EP.R 41 w' w.heap.size (fun _=>True) v l∧Below w.heap.size w w'
theorem qo.of {s:ByteArray}{w w':World}{e:Ending}(v:Value)(er pos:Int)(l:List iU)(he:e= .returned (.tuple #[v,.int .i64 er,.int .i64 pos]))(ha:oP s er pos l)(hr:EP.R 41 w' w.heap.size (fun _=>True) v l)(hb:Below w.heap.size w w'):qo s w e w':=⟨v,er,pos,l,he,ha,hr,hb⟩
theorem xO (c:UInt8)(s:ByteArray):0<(eF c s).length:=by rw[kZ];omega
end Go.Proofs.YthbdjmopolpjmaaGreatDoor.C
namespace Go.Proofs.YthbdjmopolpjmaaGreatDoor.bulks
theorem one_le {H:Type}(d:DataW H):1≤Rows.uptoBulk d:=by
 cases d with
 |lit l=>cases l<;>simp[Rows.uptoBulk]
 |nil=>simp[Rows.uptoBulk]
 |ptr d=>simp[Rows.uptoBulk]
 |slice elems spare=>simp[Rows.uptoBulk]
 |agg parts=>simp[Rows.uptoBulk]
 |iface t d=>simp[Rows.uptoBulk]
 |map entries=>simp[Rows.uptoBulk]
 |held h=>simp[Rows.uptoBulk]
theorem abm {H:Type}{d:DataW H}{l:List (DataW H)}(h:d∈l):Rows.uptoBulk d≤Rows.uptoBulkAll l:=by
 induction l with
 |nil=>cases h
 |cons x r ih=>
  simp only[Rows.uptoBulkAll];cases List.mem_cons.1 h with
  |inl e=>subst e;omega
  |inr e=>have:=ih e;omega
theorem append {H:Type}(l r:List (DataW H)):Rows.uptoBulkAll (l++r)=Rows.uptoBulkAll l+Rows.uptoBulkAll r:=by
 induction l with
 |nil=>simp[Rows.uptoBulkAll]
 |cons x l ih=>simp only[List.cons_append,Rows.uptoBulkAll,ih];omega
theorem length_le {H:Type}(l:List (DataW H)):l.length≤Rows.uptoBulkAll l:=by
 induction l with
 |nil=>simp[Rows.uptoBulkAll]
 |cons x r ih=>have:=one_le x;simp only[Rows.uptoBulkAll,List.length_cons];omega
theorem ahe {H:Type}(elems spare:List (DataW H)):elems.length+spare.length+1≤Rows.uptoBulk (.slice elems spare):=by
 have h1:=length_le elems;have h2:=length_le spare;simp only[Rows.uptoBulk];omega
theorem aes {H:Type}(elems spare:List (DataW H)):Rows.uptoBulkAll elems+1≤Rows.uptoBulk (.slice elems spare):=by
 simp only[Rows.uptoBulk];omega
theorem agF {H:Type}(bytes:List UInt8):Rows.uptoBulk (DataW.lit (H:=H) (.string bytes))=bytes.length+1:=by
 simp[Rows.uptoBulk]
theorem bound {H:Type}{l:List (DataW H)}(hk:Rows.uptoSmall H l=true):Rows.uptoBulkAll l≤1048576:=by
 simpa[Rows.uptoSmall]using hk
end Go.Proofs.YthbdjmopolpjmaaGreatDoor.bulks
