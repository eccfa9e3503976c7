/- Part 17 of the proof. -/
import Derived.Test.YthbdjmopolpjmaaGreatDoorR07
import Derived.Test.YthbdjmopolpjmaaGreatDoorR16
set_option linter.unusedVariables false
set_option linter.unusedSimpArgs false
set_option maxHeartbeats 8000000
set_option maxRecDepth 100000
namespace Go.Proofs.YthbdjmopolpjmaaGreatDoor.M
open Go.RowKit Go.Proofs.YthbdjmopolpjmaaGreatDoorW.PrintWords Go.Proofs.YthbdjmopolpjmaaGreatDoorW.PrintLast Go.Proofs.YthbdjmopolpjmaaGreatDoorW.PrintMore Go.Proofs.YthbdjmopolpjmaaGreatDoor.F Go.Proofs.YthbdjmopolpjmaaGreatDoor.C
def kn:iU:=⟨1,⟨#[108,101,110,103,116,104]⟩,⟨⟨#[53]⟩,⟨#[49]⟩⟩,⟨⟨#[48]⟩,⟨#[49]⟩⟩,⟨#[109]⟩,3,[],0,false⟩
theorem QC (c:UInt8)(h0:48≤(c.toNat:Int))(h1:(c.toNat:Int)≤57):lU ⟨#[c]⟩:=by
 have hs:(⟨#[c]⟩:ByteArray).size=1:=rfl;refine⟨by rw[hs];omega,by rw[hs];omega,fun _=>by rw[hs];omega,?_⟩;intro x hx;have:bytesOf ⟨#[c]⟩=[(c.toNat:Int)]:=rfl;rw[this]at hx;obtain rfl:=List.mem_singleton.1 hx;exact⟨h0,h1⟩
theorem GH (c:UInt8)(h:(c.toNat:Int)≠45):minus ⟨#[c]⟩=false:=by
 unfold minus;refine decide_eq_false (fun hh=>h ?_);exact hh.2
theorem Iz (c:UInt8):dv ⟨#[c]⟩=(c.toNat:Int)- 48:=by
 have:bytesOf ⟨#[c]⟩=[(c.toNat:Int)]:=rfl;unfold dv;rw[this];simp[dec]
theorem QF (c:UInt8)(h0:48≤(c.toNat:Int))(h1:(c.toNat:Int)≤57):kL ⟨#[c]⟩ ⟨#[49]⟩:=by
 have hm:=GH c (by omega);have hb:body ⟨#[c]⟩=⟨#[c]⟩:=by unfold body;rw[hm];rfl
 have hd:dv ⟨#[49]⟩=1:=by rw[Iz];rfl
 refine⟨⟨by rw[hb];exact QC c h0 h1,fun h=>by rw[hm]at h;cases h⟩,QC 49 (by decide) (by decide),by rw[hd];decide,?_⟩;rw[hb,hd,ja];simp
theorem LV (c:UInt8):mf ⟨#[c]⟩ ⟨#[49]⟩=⟨#[c]⟩:=if_pos (by rw[ByteArray.toList_eq];rfl)
theorem Xw:Small kn:=⟨by show(6:Nat)≤_;omega,by show(1:Nat)≤_;omega,fun t ht=>by cases ht⟩
theorem ahA:iK kn=0:=CQ (by unfold Bounds;decide) ⟨QF 53 (by decide) (by decide),QF 48 (by decide) (by decide)⟩ (by
 show¬minus ⟨#[48]⟩=true
 rw[GH 48 (by decide)]
 decide) (by show¬(8<0);decide)
theorem Ed (n:Nat)(h:n<10):Lib.itoa (n:Int)=[UInt8.ofNat (48+n)]:=by
 unfold Lib.itoa;rw[if_neg (by omega)];simp only[Int.toNat_natCast];exact Lib.decDigits_one h
theorem Qy:line kn=[49,9,48,9,51,9,43,9,108,101,110,103,116,104,9,53,9,48,9,109,10]:=by
 have e1:(⟨(Lib.itoa kn.f0).toArray⟩:ByteArray)=⟨#[49]⟩:=by show(⟨(Lib.itoa ((1:Nat):Int)).toArray⟩:ByteArray)=_;rw[Ed 1 (by omega)];rfl
 have e2:(⟨(Lib.itoa kn.f7).toArray⟩:ByteArray)=⟨#[48]⟩:=by show(⟨(Lib.itoa ((0:Nat):Int)).toArray⟩:ByteArray)=_;rw[Ed 0 (by omega)];rfl
 have e3:(⟨(Lib.itoa kn.f5).toArray⟩:ByteArray)=⟨#[51]⟩:=by show(⟨(Lib.itoa ((3:Nat):Int)).toArray⟩:ByteArray)=_;rw[Ed 3 (by omega)];rfl
 have e4:mf kn.f2.f0 kn.f2.f1=⟨#[53]⟩:=LV 53;have e5:mf kn.f3.f0 kn.f3.f1=⟨#[48]⟩:=LV 48;have e6:esc kn.f1=⟨#[108,101,110,103,116,104]⟩:=by decide+kernel
 have e7:esc kn.f4=⟨#[109]⟩:=by decide+kernel
 unfold line parts;rw[e1,e2,e3,e4,e5,e6,e7];rfl
theorem ads:prt [kn]=(⟨#[49,9,48,9,51,9,43,9,108,101,110,103,116,104,9,53,9,48,9,109,10]⟩,0,0):=by
 have h0:∀k:Nat,k< [kn].length→iK (aX [kn] (k:Int))=0:=by
  intro k hk;obtain rfl:k=0:=by simp at hk;omega
  exact ahA
 have hl:lines [kn]=line kn:=by simp[lines]
 rw[XX h0 (by simp) (by rw[hl,Qy];decide),hl,Qy];rfl
def gK {α:Type}[DecidableEq α](c:α):List α→List (List α)
 | []=>[[]]
 |a::l=>if a=c then[]::gK c l else(a::(gK c l).headD [])::(gK c l).tail
section
variable {α : Type} [DecidableEq α] {c : α}
theorem GZ (c:α):∀l,gK c l≠[]
 | []=>by simp[gK]
 |a::l=>by unfold gK;split<;>simp
theorem xX:∀{p:List α},c∉p→∀l,gK c (p++l)=(p++(gK c l).headD [])::(gK c l).tail
 | [],_,l=>by
  cases h:gK c l with
  |nil=>exact absurd h (GZ c l)
  |cons a b=>simp[h]
 |a::p,hp,l=>by
  have h1:a≠c:=fun e=>hp (e▸List.mem_cons_self)
  have ih:=xX (fun h=>hp (List.mem_cons_of_mem _ h)) l;rw[List.cons_append,gK,if_neg h1,ih];rfl
theorem qJ {p:List α}(hp:c∉p):gK c p=[p]:=by
 have:=xX hp [];simpa[gK]using this
theorem sV {p:List α}(hp:c∉p)(l:List α):gK c (p++c::l)=p::gK c l:=by
 rw[xX hp (c::l),gK,if_pos rfl];simp
theorem sS (c:α)(l:List α):(c∉l)∨∃p r,l=p++c::r∧c∉p:=by
 by_cases h:c∈l
 ·exact .inr (List.eq_append_cons_of_mem h)
 ·exact .inl h
theorem EG:∀(n:Nat) (l:List α),l.length≤n→(gK c l).length=l.count c+1∧∀f∈gK c l,f.length≤l.length:=by
 intro n
 induction n with
 |zero=>
  intro l hl;obtain rfl:l=[]:=List.eq_nil_of_length_eq_zero (by omega);simp[gK]
 |succ n ih=>
  intro l hl;rcases sS c l with h|⟨p,r,rfl,hp⟩
  ·rw[qJ h];refine⟨by rw[List.count_eq_zero_of_not_mem h];rfl,fun f hf=>?_⟩;rw[List.mem_singleton.1 hf];exact Nat.le_refl _
  ·have h2:=ih r (by simp at hl;omega);rw[sV hp];refine⟨?_,fun f hf=>?_⟩
   ·rw[List.length_cons,h2.1,List.count_append,List.count_eq_zero_of_not_mem hp,List.count_cons_self];omega
   ·rcases List.mem_cons.1 hf with rfl|hf
    ·simp
    ·have:=h2.2 f hf;simp;omega
theorem EH {β:Type}[DecidableEq β](g:α→β)(hg:∀a b,g a=g b→a=b)(c:α):∀l:List α,gK (g c) (l.map g)=(gK c l).map (List.map g)
 | []=>rfl
 |a::l=>by
  rw[List.map_cons,gK,gK,EH g hg c l]
  by_cases h:a=c
  ·rw[if_pos (by rw[h]),if_pos h];rfl
  ·rw[if_neg (fun e=>h (hg _ _ e)),if_neg h];cases hs:gK c l with
   |nil=>exact absurd hs (GZ c l)
   |cons x y=>rfl
end
def eF (c:UInt8)(s:ByteArray):List ByteArray:=(gK (c.toNat:Int) (bytesOf s)).map strOfNums
theorem lN (c:UInt8)(s:ByteArray):eF c s=(gK c s.data.toList).map (fun l=>⟨l.toArray⟩):=by
 unfold eF bytesOf;rw[EH (fun b:UInt8=>(b.toNat:Int)) (fun a b h=>UInt8.toNat_inj.1 (Int.ofNat.inj h)),List.map_map];refine List.map_congr_left (fun l _=>?_)
 show strOfNums (l.map fun b=>(b.toNat:Int))=⟨l.toArray⟩
 have:=iO ⟨l.toArray⟩;simpa[bytesOf]using this
theorem qC (c:UInt8)(s:ByteArray):∀t∈eF c s,t.size≤s.size:=by
 rw[lN];intro t ht;obtain⟨l,hl,rfl⟩:=List.mem_map.1 ht;have:=(EG s.data.toList.length s.data.toList (Nat.le_refl _)).2 l hl;rw[bV]at this;rw[←bV];simpa using this
theorem kZ (c:UInt8)(s:ByteArray):(eF c s).length=Lib.countByte s.data.toList c+1:=by
 rw[lN,List.length_map];exact(EG s.data.toList.length s.data.toList (Nat.le_refl _)).1
theorem Eb (c:UInt8)(r:List UInt8):∀{p:List UInt8},c∉p→Lib.indexByte (p++c::r) c=p.length
 | [],_=>by simp[Lib.indexByte]
 |a::p,hp=>by
  have h1:(a==c)=false:=beq_eq_false_iff_ne.2 (fun e=>hp (e▸List.mem_cons_self));have h2:=Eb c r (fun h=>hp (List.mem_cons_of_mem _ h):c∉p);rw[List.cons_append,Lib.indexByte,h1,h2];have h3:((p.length:Int)== -1)=false:=by rw[beq_eq_false_iff_ne];omega
  rw[h3];simp
theorem Ec (c:UInt8):∀{p:List UInt8},c∉p→Lib.indexByte p c= -1
 | [],_=>rfl
 |a::p,hp=>by
  have h1:(a==c)=false:=beq_eq_false_iff_ne.2 (fun e=>hp (e▸List.mem_cons_self));rw[Lib.indexByte,h1,Ec c (fun h=>hp (List.mem_cons_of_mem _ h))];rfl
theorem Tu (c:UInt8):∀(n:Nat) (l:List UInt8),l.length≤n→Lib.splitK [c] 0 (Lib.count l [c]) l=gK c l∧Lib.count l [c]+1=(gK c l).length:=by
 intro n
 induction n with
 |zero=>
  intro l hl;obtain rfl:l=[]:=List.eq_nil_of_length_eq_zero (by omega);have h0:Lib.count ([]:List UInt8) [c]=0:=Lib.count_miss (by rw[Lib.index_one];rfl);rw[h0];exact⟨rfl,rfl⟩
 |succ n ih=>
  intro l hl;rcases sS c l with h|⟨p,r,rfl,hp⟩
  ·have h0:Lib.count l [c]=0:=Lib.count_miss (by rw[Lib.index_one];exact Ec c h);rw[h0,qJ h];exact⟨rfl,rfl⟩
  ·have hi:Lib.index (p++c::r) [c]=(p.length:Int):=by rw[Lib.index_one];exact Eb c r hp
   have hd:(p++c::r).drop (p.length+[c].length)=r:=by
    rw[List.drop_append];simp
   have hc:Lib.count (p++c::r) [c]=Lib.count r [c]+1:=by
    rw[Lib.count_hit (by simp) hi,hd];omega
   have h2:=ih r (by simp at hl;omega);rw[hc,sV hp];refine⟨?_,by rw[List.length_cons,←h2.2]⟩;unfold Lib.splitK;have hm:¬(Lib.index (p++c::r) [c]== -1)=true:=fun e=>by have:=beq_iff_eq.1 e;omega
   rw[if_neg hm,hi,Int.toNat_natCast,hd,h2.1];simp
theorem Tt (c:UInt8)(s:ByteArray):Lib.splitB ⟨#[c]⟩ 0 (Lib.countB s ⟨#[c]⟩) s=eF c s∧Lib.countB s ⟨#[c]⟩+1=(eF c s).length:=by
 have h:=Tu c s.data.toList.length s.data.toList (Nat.le_refl _);have hb:=Lib.splitB_data ⟨#[c]⟩ 0 (Lib.countB s ⟨#[c]⟩) s;have e:Lib.splitK [c] 0 (Lib.countB s ⟨#[c]⟩) s.data.toList=gK c s.data.toList:=h.1;rw[lN,List.length_map];refine⟨?_,h.2⟩;rw[←e,←show _=Lib.splitK [c] 0 (Lib.countB s ⟨#[c]⟩) s.data.toList from hb,List.map_map];exact(List.map_id' _).symm
theorem Ve (c:UInt8)(s:ByteArray):(c∉s.data.toList∧Lib.cut s.data.toList [c]=(s.data.toList,[],false)∧eF c s=[s])∨
  ∃p r,Lib.cut s.data.toList [c]=(p,r,true)∧s.data.toList=p++c::r∧c∉p∧eF c s=⟨p.toArray⟩::eF c ⟨r.toArray⟩:=by
 rcases sS c s.data.toList with h|⟨p,r,hl,hp⟩
 ·refine .inl ⟨h,?_,?_⟩
  ·unfold Lib.cut;rw[Lib.index_one,Ec c h,if_neg (by decide)]
  ·rw[lN,qJ h];rfl
 ·refine .inr ⟨p,r,?_,hl,hp,?_⟩
  ·unfold Lib.cut;rw[hl,Lib.index_one,Eb c r hp,if_pos (by omega),Int.toNat_natCast];simp
  ·rw[lN,hl,sV hp,List.map_cons,lN]
theorem Iy (s:ByteArray)(i:Nat)(h:i<s.size):(bytesOf s).drop i=bt s (i:Int)::(bytesOf s).drop (i+1):=by
 rw[List.drop_eq_getElem_cons (by rw[bytesOf_length];exact h)]
 congr 1
 have h1:=gW s (i:Int);rw[←h1];unfold rd;rw[List.getD_eq_getElem?_getD,List.getElem?_eq_getElem (by rw[bytesOf_length];simpa using h)];simp
theorem FY (s:ByteArray)(i j:Nat)(hj:j≤s.size):bytesOf (s.extract i j)=((bytesOf s).take j).drop i:=by
 unfold bytesOf;rw[←List.map_take,←List.map_drop,ByteArray.data_extract,Array.toList_extract,List.extract,List.drop_take]
theorem acf (s:ByteArray)(hs:s.size≤1000000)(c:UInt8):∀(d i f:Nat) (out:List ByteArray),i+d=s.size→f≤i→out.length≤f→(c.toNat:Int)∉((bytesOf s).take i).drop f→
  Ev (fun k=>bJ.l0 k s (c.toNat:Int) out (f:Int) (i:Int)) (out++(gK (c.toNat:Int) ((bytesOf s).drop f)).map strOfNums):=by
 intro d
 induction d with
 |zero=>
  intro i f out hi hf ho hn;have e:((bytesOf s).take i).drop f=(bytesOf s).drop f:=by rw[List.take_of_length_le (by rw[bytesOf_length];omega)]
  rw[e]at hn;rw[qJ hn]
  have e2:s.extract f s.size=strOfNums ((bytesOf s).drop f):=by
   rw[←iO (s.extract f s.size),FY s f s.size (Nat.le_refl _),List.take_of_length_le (by rw[bytesOf_length];omega)]
  obtain rfl:i=s.size:=by omega
  refine Ev.step (f:=fun k=>bJ.l0 k s (c.toNat:Int) (out++[s.extract f s.size]) ((s.size+1:Nat):Int) ((s.size+1:Nat):Int)) (fun k=>?_) (Ev.step (f:=fun _=>some (out++[s.extract f s.size])) (fun k=>?_) (by rw[List.map_singleton,←e2];exact Ev.now _))
  ·simp only[bJ.l0];rw[if_pos (by omega),if_pos trivial,if_pos (by omega),if_pos (by omega),if_pos (by omega),fD (by omega) (by omega)];rfl
  ·simp only[bJ.l0];rw[if_neg (by omega)]
 |succ d ih=>
  intro i f out hi hf ho hn
  by_cases hb:bt s (i:Int)=(c.toNat:Int)
  ·have e2:s.extract f i=strOfNums (((bytesOf s).take i).drop f):=by
    rw[←iO (s.extract f i),FY s f i (by omega)]
   have e3:(bytesOf s).drop f=((bytesOf s).take i).drop f++(c.toNat:Int)::(bytesOf s).drop (i+1):=by
    rw[←hb,←Iy s i (by omega)];have:bytesOf s=(bytesOf s).take i++(bytesOf s).drop i:=(List.take_append_drop i _).symm
    conv=>lhs;rw[this]
    rw[List.drop_append_of_le_length (by rw[List.length_take,bytesOf_length];omega)]
   have h2:=ih (i+1) (i+1) (out++[s.extract f i]) (by omega) (Nat.le_refl _) (by rw[List.length_append,List.length_singleton];omega) (by simp)
   have e4:out++(gK (c.toNat:Int) ((bytesOf s).drop f)).map strOfNums=(out++[s.extract f i])++(gK (c.toNat:Int) ((bytesOf s).drop (i+1))).map strOfNums:=by
    rw[e3,sV hn,List.map_cons,e2,List.append_assoc];rfl
   rw[e4];refine Ev.step (f:=fun k=>bJ.l0 k s (c.toNat:Int) (out++[s.extract f i]) ((i+1:Nat):Int) ((i+1:Nat):Int)) (fun k=>?_) h2;simp only[bJ.l0];rw[if_pos (by omega),if_neg (by omega),if_pos (by omega),if_pos (by omega),if_pos hb,if_pos (by omega),if_pos (by omega),if_pos (by omega),fD (by omega) (by omega)];rfl
  ·have e3:((bytesOf s).take (i+1)).drop f=((bytesOf s).take i).drop f++[bt s (i:Int)]:=by
    rw[Dk s i (by omega),List.drop_append_of_le_length (by rw[List.length_take,bytesOf_length];omega)]
   have h2:=ih (i+1) f out (by omega) (by omega) ho (by
    rw[e3];intro h;rcases List.mem_append.1 h with h|h
    ·exact hn h
    ·exact hb (List.mem_singleton.1 h).symm)
   refine Ev.step (f:=fun k=>bJ.l0 k s (c.toNat:Int) out (f:Int) ((i+1:Nat):Int)) (fun k=>?_) h2;simp only[bJ.l0];rw[if_pos (by omega),if_neg (by omega),if_pos (by omega),if_pos (by omega),if_neg hb,fD (by omega) (by omega)];rfl
theorem Rk (s:ByteArray)(hs:s.size≤1000000)(c:UInt8):Ev (fun k=>bJ.f k s (c.toNat:Int)) (eF c s):=by
 have h:=acf s hs c s.size 0 0 [] (by omega) (Nat.le_refl _) (Nat.le_refl _) (by simp);exact h
def uH:List Int→Option (List Int)
 | []=>some []
 | [c]=>if c=92 then none else some [c]
 |c::d::r=>if c=92 then(if d=92 then(uH r).map (List.cons 92)else if d=116 then(uH r).map (List.cons 9)else if d=110 then(uH r).map (List.cons 10)else none)else(uH (d::r)).map (List.cons c)
theorem LC {c:Int}(h:c≠92)(l:List Int):uH (c::l)=(uH l).map (List.cons c):=by
 cases l with
 |nil=>simp[uH,h]
 |cons d r=>rw[uH,if_neg h]
def opV (out:List Int):Option (List Int)→ByteArray×Bool
 |none=>(⟨#[]⟩,false)
 |some r=>(strOfNums (out++r),true)
theorem Df (out:List Int)(c:Int)(o:Option (List Int)):opV out (o.map (List.cons c))=opV (out++[c]) o:=by
 cases o with
 |none=>rfl
 |some r=>simp[opV]
theorem aa6 (s:ByteArray)(hs:s.size≤1000000):∀(d i:Nat) (out:List Int),s.size- i≤d→i≤s.size→out.length≤i→Ev (fun k=>cZ.l0 k s out (i:Int)) (opV out (uH ((bytesOf s).drop i))):=by
 intro d
 induction d with
 |zero=>
  intro i out hd hi ho;rw[List.drop_of_length_le (by rw[bytesOf_length];omega)];refine Ev.step (f:=fun _=>some (strOfNums out,true)) (fun k=>?_) (by show Ev _ (strOfNums (out++[]),true);rw[List.append_nil];exact Ev.now _);simp only[cZ.l0];rw[if_neg (by omega)]
 |succ d ih=>
  intro i out hd hi ho
  by_cases hlt:i<s.size
  ·rw[Iy s i hlt]
   by_cases YM:bt s (i:Int)=92
   ·by_cases h1:i+1=s.size
    ·rw[List.drop_of_length_le (by rw[bytesOf_length];omega),YM];refine Ev.step (f:=fun _=>some ((⟨#[]⟩:ByteArray),false)) (fun k=>?_) (Ev.now _);simp only[cZ.l0];rw[if_pos (by omega),if_pos (by omega),if_pos YM,fD (by omega) (by omega),if_pos (by omega)]
    ·have hb:=Iy s (i+1) (by omega)
     have hst:∀k,cZ.l0 (k+1) s out (i:Int)=(if(bt s ((i+1:Nat):Int))=92 then(cZ.l0 k s (out++[92]) ((i+1+1:Nat):Int))else(if(bt s ((i+1:Nat):Int))=116 then(cZ.l0 k s (out++[9]) ((i+1+1:Nat):Int))else(if(bt s ((i+1:Nat):Int))=110 then(cZ.l0 k s (out++[10]) ((i+1+1:Nat):Int))else(some ((⟨#[]⟩:ByteArray),false))))):=fun k=>by
      simp only[cZ.l0];rw[if_pos (by omega),if_pos (by omega),if_pos YM,fD (n:=(i:Int)+1) (by omega) (by omega),if_neg (by omega),if_pos (by omega),if_pos (by omega),fD (n:=(i:Int)+1+1) (by omega) (by omega)];simp only[if_pos (show out.length<140737488355328 by omega)];rfl
     rw[hb,YM,uH,if_pos rfl];have hlen:∀c:Int,(out++[c]).length≤i+1+1:=fun c=>by rw[List.length_append,List.length_singleton];omega
     by_cases e1:bt s ((i+1:Nat):Int)=92
     ·rw[if_pos e1,Df];exact Ev.step (f:=fun k=>cZ.l0 k s (out++[92]) ((i+1+1:Nat):Int)) (fun k=>by rw[hst,if_pos e1]) (ih (i+1+1) _ (by omega) (by omega) (hlen _))
     ·rw[if_neg e1]
      by_cases e2:bt s ((i+1:Nat):Int)=116
      ·rw[if_pos e2,Df];exact Ev.step (f:=fun k=>cZ.l0 k s (out++[9]) ((i+1+1:Nat):Int)) (fun k=>by rw[hst,if_neg e1,if_pos e2]) (ih (i+1+1) _ (by omega) (by omega) (hlen _))
      ·rw[if_neg e2]
       by_cases e3:bt s ((i+1:Nat):Int)=110
       ·rw[if_pos e3,Df];exact Ev.step (f:=fun k=>cZ.l0 k s (out++[10]) ((i+1+1:Nat):Int)) (fun k=>by rw[hst,if_neg e1,if_neg e2,if_pos e3]) (ih (i+1+1) _ (by omega) (by omega) (hlen _))
       ·rw[if_neg e3];exact Ev.step (f:=fun _=>some ((⟨#[]⟩:ByteArray),false)) (fun k=>by rw[hst,if_neg e1,if_neg e2,if_neg e3]) (Ev.now _)
   ·rw[LC YM,Df];refine Ev.step (f:=fun k=>cZ.l0 k s (out++[bt s (i:Int)]) ((i+1:Nat):Int)) (fun k=>?_) (ih (i+1) _ (by omega) (by omega) (by rw[List.length_append,List.length_singleton];omega));simp only[cZ.l0];rw[if_pos (by omega),if_pos (by omega),if_neg YM,if_pos (by omega),fD (by omega) (by omega)];rfl
  ·rw[List.drop_of_length_le (by rw[bytesOf_length];omega)];refine Ev.step (f:=fun _=>some (strOfNums out,true)) (fun k=>?_) (by show Ev _ (strOfNums (out++[]),true);rw[List.append_nil];exact Ev.now _);simp only[cZ.l0];rw[if_neg (by omega)]
def oM (s:ByteArray):ByteArray×Bool:=opV [] (uH (bytesOf s))
theorem Ej (s:ByteArray)(hs:s.size≤1000000):Ev (fun k=>cZ.f k s) (oM s):=aa6 s hs s.size 0 [] (by omega) (by omega) (Nat.le_refl _)
theorem O0:∀(k:Nat) (s:ByteArray) (o:List Int) (i:Int),bC.l0 k s o i=cZ.l0 k s o i:=by
 intro k
 induction k with
 |zero=>intro s o i;rfl
 |succ k ih=>intro s o i;simp only[bC.l0,cZ.l0,ih]
theorem LH (s:ByteArray)(hs:s.size≤1000000):Ev (fun k=>bC.f k s) (oM s):=
 Ev.congr (f:=fun k=>cZ.f k s) (fun k=>O0 k s [] 0) (Ej s hs)
theorem QB {a d m:Int}(ha:0≤a)(hd:0≤d)(hm:0<m):mn (mn a m*10+d) m=mn (a*10+d) m:=by
 unfold mn;omega
theorem abx (a:Int){m:Int}(ha:0≤a)(hm:0<m):0≤mn a m∧mn a m≤m:=by
 unfold mn;omega
theorem MC (s:ByteArray)(i:Nat)(h:i<s.size):dec 0 ((bytesOf s).take (i+1))=dec 0 ((bytesOf s).take i)*10+(bt s (i:Int)- 48):=by
 rw[Dk s i h,JY]
theorem Lu {s:ByteArray}{i:Nat}(h:i<s.size)(hn:Num ((bytesOf s).take i))(hb:48≤bt s (i:Int)∧bt s (i:Int)≤57):Num ((bytesOf s).take (i+1)):=by
 rw[Dk s i h];intro c hc;rcases List.mem_append.1 hc with hc|hc
 ·exact hn c hc
 ·rw[List.mem_singleton.1 hc];exact hb
theorem qB {s:ByteArray}{i:Nat}(h:i<s.size)(hb:¬(48≤bt s (i:Int)∧bt s (i:Int)≤57)):¬Canon s:=fun hc=>hb ((C9 s).1 hc.2.2 i h)
theorem Yv (s:ByteArray)(hs:s.size≤1000000):∀(d i:Nat),i+d=s.size→Num ((bytesOf s).take i)→
  ∃v b,Ev (fun k=>dS.l0 k s (mn (dec 0 ((bytesOf s).take i)) 1099511627776) (s.size:Int) (i:Int)) (v,b)∧(b=true↔Canon s)∧(Canon s→v=mn (dv s) 1099511627776):=by
 intro d
 induction d with
 |zero=>
  intro i hi hn;have e:(bytesOf s).take i=bytesOf s:=List.take_of_length_le (by rw[bytesOf_length];omega);rw[e]at hn⊢
  have hst:∀k,dS.l0 (k+1) s (mn (dec 0 (bytesOf s)) 1099511627776) (s.size:Int) (i:Int)=(if s.toList=([]:List UInt8)then(some (mn (dec 0 (bytesOf s)) 1099511627776,false))else(if 0<(s.size:Int)then(if(bt s 0)=48 then(some (mn (dec 0 (bytesOf s)) 1099511627776,((s.size:Int)==1)))else(some (mn (dec 0 (bytesOf s)) 1099511627776,true)))else(none))):=fun k=>by
   simp only[dS.l0];rw[if_neg (by omega)]
  by_cases h0:s.size=0
  ·have hl:s.toList=([]:List UInt8):=by
    rw[ByteArray.toList_eq];exact List.eq_nil_of_length_eq_zero (by rw[bV];exact h0)
   refine⟨_,false,Ev.step (f:=fun _=>some (mn (dec 0 (bytesOf s)) 1099511627776,false)) (fun k=>by rw[hst,if_pos hl]) (Ev.now _),?_,fun h=>rfl⟩;exact⟨fun h=>Bool.noConfusion h,fun h=>absurd h.1 (by omega)⟩
  ·have hl:¬s.toList=([]:List UInt8):=by
    rw[ByteArray.toList_eq];intro h;have:=bV s;rw[h]at this;simp at this;omega
   by_cases hb:bt s 0=48
   ·refine⟨_,((s.size:Int)==1),Ev.step (f:=fun _=>some (mn (dec 0 (bytesOf s)) 1099511627776,((s.size:Int)==1))) (fun k=>by rw[hst,if_neg hl,if_pos (by omega),if_pos hb]) (Ev.now _),?_,fun h=>rfl⟩;rw[beq_iff_eq];exact⟨fun h=>⟨by omega,fun _=>by omega,hn⟩,fun h=>by have:=h.2.1 hb;have:=h.1;omega⟩
   ·refine⟨_,true,Ev.step (f:=fun _=>some (mn (dec 0 (bytesOf s)) 1099511627776,true)) (fun k=>by rw[hst,if_neg hl,if_pos (by omega),if_neg hb]) (Ev.now _),?_,fun h=>rfl⟩;exact⟨fun _=>⟨by omega,fun h=>absurd h hb,hn⟩,fun _=>rfl⟩
 |succ d ih=>
  intro i hi hn;have hr:=jh hn;have hm:=abx (dec 0 ((bytesOf s).take i)) (m:=1099511627776) hr.1 (by omega)
  by_cases h1:bt s (i:Int)<48
  ·refine⟨0,false,Ev.step (f:=fun _=>some (0,false)) (fun k=>?_) (Ev.now _),?_,fun h=>absurd h (qB (i:=i) (by omega) (by omega))⟩
   ·simp only[dS.l0];rw[if_pos (by omega),if_pos (by omega),if_pos (by omega),if_pos h1]
   ·exact⟨fun h=>Bool.noConfusion h,fun h=>absurd h (qB (i:=i) (by omega) (by omega))⟩
  ·by_cases h2:bt s (i:Int)>57
   ·refine⟨0,false,Ev.step (f:=fun _=>some (0,false)) (fun k=>?_) (Ev.now _),?_,fun h=>absurd h (qB (i:=i) (by omega) (by omega))⟩
    ·simp only[dS.l0];rw[if_pos (by omega),if_pos (by omega),if_pos (by omega),if_neg h1,if_pos h2]
    ·exact⟨fun h=>Bool.noConfusion h,fun h=>absurd h (qB (i:=i) (by omega) (by omega))⟩
   ·obtain⟨v,b,he,hb,hv⟩:=ih (i+1) (by omega) (Lu (by omega) hn ⟨by omega,by omega⟩);refine⟨v,b,Ev.step (f:=fun k=>dS.l0 k s (mn (dec 0 ((bytesOf s).take (i+1))) 1099511627776) (s.size:Int) ((i+1:Nat):Int)) (fun k=>?_) he,hb,hv⟩;simp only[dS.l0];rw[if_pos (by omega),if_pos (by omega),if_pos (by omega),if_neg h1,if_neg h2,fD (n:=(i:Int)+1) (by omega) (by omega),MC s i (by omega),←QB (d:=bt s (i:Int)- 48) hr.1 (by omega) (by omega)];obtain⟨q,hq⟩:∃q,mn (dec 0 ((bytesOf s).take i)) 1099511627776=q:=⟨_,rfl⟩;rw[hq]at hm⊢;rw[fD (n:=10*q) (by omega) (by omega),fD (by omega) (by omega),show 10*q+(bt s (i:Int)- 48)%256=q*10+(bt s (i:Int)- 48)by omega];rfl
theorem MR (s:ByteArray)(hs:s.size≤1000000):∃v b,Ev (fun k=>dS.f k s) (v,b)∧(b=true↔Canon s)∧(Canon s→v=mn (dv s) 1099511627776):=
 Yv s hs s.size 0 (by omega) (by intro c hc;simp at hc)
theorem Sv (s:ByteArray)(hs:s.size≤1000000):∀(d i:Nat),i+d=s.size→Num ((bytesOf s).take i)→
  ∃v b,Ev (fun k=>aQ.l0 k s (mn (dec 0 ((bytesOf s).take i)) 1000001) (i:Int)) (v,b)∧(b=true↔Canon s)∧(Canon s→v=mn (dv s) 1000001):=by
 intro d
 induction d with
 |zero=>
  intro i hi hn;have e:(bytesOf s).take i=bytesOf s:=List.take_of_length_le (by rw[bytesOf_length];omega);rw[e]at hn⊢
  have hst:∀k,aQ.l0 (k+1) s (mn (dec 0 (bytesOf s)) 1000001) (i:Int)=(if(s.size:Int)>0 then(if 0<(s.size:Int)then(if(bt s 0)=48 then(some (mn (dec 0 (bytesOf s)) 1000001,((s.size:Int)==1)))else(some (mn (dec 0 (bytesOf s)) 1000001,true)))else(none))else(some (mn (dec 0 (bytesOf s)) 1000001,false))):=fun k=>by
   simp only[aQ.l0];rw[if_neg (by omega)]
  by_cases h0:s.size=0
  ·refine⟨_,false,Ev.step (f:=fun _=>some (mn (dec 0 (bytesOf s)) 1000001,false)) (fun k=>by rw[hst,if_neg (by omega)]) (Ev.now _),?_,fun h=>rfl⟩;exact⟨fun h=>Bool.noConfusion h,fun h=>absurd h.1 (by omega)⟩
  ·by_cases hb:bt s 0=48
   ·refine⟨_,((s.size:Int)==1),Ev.step (f:=fun _=>some (mn (dec 0 (bytesOf s)) 1000001,((s.size:Int)==1))) (fun k=>by rw[hst,if_pos (by omega),if_pos (by omega),if_pos hb]) (Ev.now _),?_,fun h=>rfl⟩;rw[beq_iff_eq];exact⟨fun h=>⟨by omega,fun _=>by omega,hn⟩,fun h=>by have:=h.2.1 hb;have:=h.1;omega⟩
   ·refine⟨_,true,Ev.step (f:=fun _=>some (mn (dec 0 (bytesOf s)) 1000001,true)) (fun k=>by rw[hst,if_pos (by omega),if_pos (by omega),if_neg hb]) (Ev.now _),?_,fun h=>rfl⟩;exact⟨fun _=>⟨by omega,fun h=>absurd h hb,hn⟩,fun _=>rfl⟩
 |succ d ih=>
  intro i hi hn;have hr:=jh hn;have hm:=abx (dec 0 ((bytesOf s).take i)) (m:=1000001) hr.1 (by omega)
  by_cases h1:bt s (i:Int)<48
  ·refine⟨0,false,Ev.step (f:=fun k=>aQ.j1 k s (mn (dec 0 ((bytesOf s).take i)) 1000001) (i:Int) true) (fun k=>?_) (Ev.step (f:=fun _=>some (0,false)) (fun k=>?_) (Ev.now _)),?_,fun h=>absurd h (qB (i:=i) (by omega) (by omega))⟩
   ·simp only[aQ.l0];rw[if_pos (by omega),if_pos (by omega),if_pos h1]
   ·simp only[aQ.j1];rw[if_pos trivial]
   ·exact⟨fun h=>Bool.noConfusion h,fun h=>absurd h (qB (i:=i) (by omega) (by omega))⟩
  ·by_cases h2:bt s (i:Int)>57
   ·refine⟨0,false,Ev.step (f:=fun k=>aQ.j1 k s (mn (dec 0 ((bytesOf s).take i)) 1000001) (i:Int) true) (fun k=>?_) (Ev.step (f:=fun _=>some (0,false)) (fun k=>?_) (Ev.now _)),?_,fun h=>absurd h (qB (i:=i) (by omega) (by omega))⟩
    ·simp only[aQ.l0];rw[if_pos (by omega),if_pos (by omega),if_neg h1,decide_eq_true h2]
    ·simp only[aQ.j1];rw[if_pos trivial]
    ·exact⟨fun h=>Bool.noConfusion h,fun h=>absurd h (qB (i:=i) (by omega) (by omega))⟩
   ·obtain⟨v,b,he,hb,hv⟩:=ih (i+1) (by omega) (Lu (by omega) hn ⟨by omega,by omega⟩);refine⟨v,b,Ev.step (f:=fun k=>aQ.j1 k s (mn (dec 0 ((bytesOf s).take i)) 1000001) (i:Int) false) (fun k=>?_) (Ev.step (f:=fun k=>aQ.l0 k s (mn (dec 0 ((bytesOf s).take (i+1))) 1000001) ((i+1:Nat):Int)) (fun k=>?_) he),hb,hv⟩
    ·simp only[aQ.l0];rw[if_pos (by omega),if_pos (by omega),if_neg h1,decide_eq_false h2]
    ·simp only[aQ.j1];rw[if_neg (by decide),if_pos (by omega),if_pos (by omega),fD (n:=(i:Int)+1) (by omega) (by omega),MC s i (by omega),←QB (d:=bt s (i:Int)- 48) hr.1 (by omega) (by omega)];obtain⟨q,hq⟩:∃q,mn (dec 0 ((bytesOf s).take i)) 1000001=q:=⟨_,rfl⟩;rw[hq]at hm⊢;rw[fD (n:=10*q) (by omega) (by omega),fD (by omega) (by omega),show 10*q+(bt s (i:Int)- 48)%256=q*10+(bt s (i:Int)- 48)by omega]
     by_cases h3:q*10+(bt s (i:Int)- 48)>1000000
     ·rw[if_pos h3,show mn (q*10+(bt s (i:Int)- 48)) 1000001=1000001 by unfold mn;omega];rfl
     ·rw[if_neg h3,show mn (q*10+(bt s (i:Int)- 48)) 1000001=q*10+(bt s (i:Int)- 48)by unfold mn;omega];rfl
theorem I4 (s:ByteArray)(hs:s.size≤1000000):∃v b,Ev (fun k=>aQ.f k s) (v,b)∧(b=true↔Canon s)∧(Canon s→v=mn (dv s) 1000001):=
 Sv s hs s.size 0 (by omega) (by intro c hc;simp at hc)
end Go.Proofs.YthbdjmopolpjmaaGreatDoor.M
namespace Go.Proofs.YthbdjmopolpjmaaGreatDoor.C
open Go.RowKit Go.Proofs.YthbdjmopolpjmaaGreatDoorW.PrintWords Go.Proofs.YthbdjmopolpjmaaGreatDoorW.PrintLast Go.Proofs.YthbdjmopolpjmaaGreatDoorW.PrintMore Go.Proofs.YthbdjmopolpjmaaGreatDoor.F Go.Proofs.YthbdjmopolpjmaaGreatDoor.M
attribute [local go_sem] max2_int min2_int max_two min_two max_three min_three max_four min_four
theorem Ry {n:Int}(h:n=0):yH n= .nilIface:=if_pos h
theorem Vs {n:Int}(h:¬n=0):yH n= .iface 83 (.agg #[.int .i64 n]):=if_neg h
noncomputable def O1 (l:List iU):Value:= .tuple #[.string (prt l).1,.int .i64 (prt l).2.1,.int .i64 (prt l).2.2]
theorem eleven {W:World}{b:Nat}{v0 v1 v2 v3 v4 v5 v6 v7 v8 v9 v10:Value}(h:W.heap[b]?=some (.cells #[v0,v1,v2,v3,v4,v5,v6,v7,v8,v9,v10] 41 (0,0))):
  W.cell? ⟨b,0,none⟩=some v0∧W.cell? ⟨b,1,none⟩=some v1∧W.cell? ⟨b,2,none⟩=some v2∧W.cell? ⟨b,3,none⟩=some v3∧W.cell? ⟨b,4,none⟩=some v4∧W.cell? ⟨b,5,none⟩=some v5∧W.cell? ⟨b,6,none⟩=some v6∧W.cell? ⟨b,7,none⟩=some v7∧W.cell? ⟨b,8,none⟩=some v8∧W.cell? ⟨b,9,none⟩=some v9∧W.cell? ⟨b,10,none⟩=some v10:=
 ⟨(aj h 0).trans rfl,(aj h 1).trans rfl,(aj h 2).trans rfl,(aj h 3).trans rfl,(aj h 4).trans rfl,(aj h 5).trans rfl,(aj h 6).trans rfl,(aj h 7).trans rfl,(aj h 8).trans rfl,(aj h 9).trans rfl,(aj h 10).trans rfl⟩
def Yg (b:Bool):ByteArray:=⟨(if b then #[120]else #[43])⟩
theorem RD (x:iU)(A:Option Addr)(c:Nat)(w:World)(hf:Fits x)(hp:Pow w):Calls Tryz.prog 49 #[EV x A c] w fun e w'=>e= .returned (.string (Yg x.f8))∧Below w.heap.size w w':=VM x A c w hf hp
theorem Pq {l:List iU}{i:Int}(h0:0≤i)(h1:i<l.length):aX l i∈l:=by
 obtain⟨j,rfl⟩:∃j:Nat,i=(j:Int):=⟨i.toNat,by omega⟩;rw[xU (by omega)];exact List.getElem_mem _
theorem DF (A:Option Addr)(c:Nat)(l:List iU)(w:World)(hC:Kd.C EP w A l.length l)(hc:l.length≤c)(hl:l.length≤1048576)(hs:∀x∈l,Small x)(hg:BI w)(hp:Pow w):
  Calls Tryz.prog 8 #[.slice A l.length c] w fun e w'=>e= .returned (O1 l)∧Below w.heap.size w w':=by
 have HC:=zM (zA hC (zA hc (zA hl hs)));have HG:=zM (zA hg hp);have hlm:=eq_true (show l.length≤9223372036854775807 by omega);clear hC hc hl hs hg hp;go_enter Tryz.func8,Tryz.ntmps8;go_wp2_with fail;go_loopg [20] l.length (fun kq v20 W=>∃i:Int,v20= .int .i64 i∧Aside0 (0≤i∧i≤l.length∧l.length≤i+kq∧(∀j:Nat,(j:Int)<i→iK (aX l (j:Int))=0)∧Below w.heap.size w W))
 case atStart=>exact⟨0,rfl,⟨by omega,by omega,by omega,fun j hj=>by omega,Below.refl _ _⟩⟩
 case round=>
  obtain⟨i,rfl,HJ⟩:=hrel;have lV:=zM HJ.out.2.2.2.2
  by_cases hi:i<l.length
  ·have p0:=HJ.out.1;have q0:=hi;obtain⟨ad,A8,c8,e,hx0,hx1,hx2,hx3,hx4,hx5,hx6,hx7,ZV,hx9,tX,hl8,hi8⟩:=Il HC.out.1 i p0 q0;cases e;replace hx0:=aI lV.out hx0;replace hx1:=aI lV.out hx1;replace hx2:=aI lV.out hx2;replace hx3:=aI lV.out hx3;replace hx4:=aI lV.out hx4;replace hx5:=aI lV.out hx5;replace hx6:=aI lV.out hx6;replace hx7:=aI lV.out hx7;replace ZV:=aI lV.out ZV;replace hx9:=aI lV.out hx9;replace tX:=aI lV.out tX;have HI:=zM hi;clear hi hl8 hi8;have hd:=decide_eq_true q0;replace p0:=eq_true p0;replace q0:=eq_true q0;go_wp2_with fail;refine(Kz (aX l i) A8 c8 _).mono ?_;rintro e w1 ⟨rfl,hb⟩;have HB1:=zM (ah (ah lV.out lV.out.size (ag (Below.refl _ _) _)) (by have:=lV.out.size;simp;omega) hb);clear hb hx0 hx1 hx2 hx3 hx4 hx5 hx6 hx7 ZV hx9 tX
   by_cases hcan:iK (aX l i)=0
   ·rw[Ry hcan];have YH:=zM hcan;clear hcan;obtain⟨k1,rfl⟩:∃k1,gk=k1+1:=⟨gk- 1,by have:=HJ.out.2.2.1;have:=HI.out;omega⟩;go_wp2_with fail;go_roundg k1
    case measure=>omega
    case rel=>
     have:=HI.out;have:=HC.out.2.2.1;have:=HJ.out.1;refine⟨i+1,congrArg (Value.int .i64) (fD (by omega) (by omega)),⟨by omega,by omega,by have:=HJ.out.2.2.1;omega,fun j hj=>?_,HB1.out⟩⟩
     by_cases hji:(j:Int)=i
     ·rw[hji];exact YH.out
     ·exact HJ.out.2.2.2.1 j (by omega)
   ·rw[Vs hcan];have YH:=zM hcan;clear hcan;go_wp2_with fail;refine(G6 (iK (aX l i)) i _ (HG.out.1.below HB1.out)).mono ?_;rintro e w2 ⟨rfl,hb⟩;have HB2:=zM (ah HB1.out HB1.out.size hb);clear hb;go_wp2_with fail;go_ret3;refine⟨?_,HB2.out⟩;obtain⟨j,rfl⟩:∃j:Nat,i=(j:Int):=⟨i.toNat,by have:=HJ.out.1;omega⟩;unfold O1;rw[aaf (j:=j) (by have:=HI.out;omega) (fun k hk=>HJ.out.2.2.2.1 k (by omega)) YH.out];rfl
  ·have hd:=zF hi;have he:i=l.length:=by have:=HJ.out.2.1;omega
   have JD:=zM (show∀k:Nat,k<l.length→iK (aX l (k:Int))=0 from fun k hk=>HJ.out.2.2.2.1 k (by omega));clear hi he
   by_cases hm:4096<l.length
   ·have hm1:=zT hm;have hm2:decide ((4096:Int)<(l.length:Int))=true:=decide_eq_true (by omega);have HM:=zM hm;clear hm;go_wp2_with fail;go_ret3;refine⟨?_,lV.out⟩;unfold O1;rw[XW JD.out HM.out];rfl
   ·have hm1:=zF hm;have hm2:decide ((4096:Int)<(l.length:Int))=false:=decide_eq_false (by omega);have Hy:=zM hm;clear hm HJ;obtain⟨wa,hwa⟩:∃wa,wa=wr:=⟨_,rfl⟩;subst hwa;go_wp2_with fail;go_loopg [10,45] l.length (fun kq v10 v45 W=>∃i:Int,v45= .int .i64 i∧Aside0 (0≤i∧i≤l.length∧l.length≤i+kq∧Rb W w.heap.size v10 (lines (l.take i.toNat))∧(lines (l.take i.toNat)).length≤65536∧Below w.heap.size w W))
    case atStart=>exact⟨0,rfl,⟨by omega,by omega,by omega,Kd.jB _ _ _ _ _,by simp[lines],lV.out⟩⟩
    case round=>
     clear lV;obtain⟨i,rfl,HJ⟩:=hrel;have lV:=zM HJ.out.2.2.2.2.2
     by_cases hi:i<l.length
     ·have p0:=HJ.out.1;have q0:=hi;obtain⟨ad,A8,c8,e,hx0,hx1,hx2,hx3,hx4,hx5,hx6,hx7,ZV,hx9,tX,hl8,hi8⟩:=Il HC.out.1 i p0 q0;cases e;replace hx0:=aI lV.out hx0;replace hx1:=aI lV.out hx1;replace hx2:=aI lV.out hx2;replace hx3:=aI lV.out hx3;replace hx4:=aI lV.out hx4;replace hx5:=aI lV.out hx5;replace hx6:=aI lV.out hx6;replace hx7:=aI lV.out hx7;replace ZV:=aI lV.out ZV;replace hx9:=aI lV.out hx9;replace tX:=aI lV.out tX;have HI:=zM (zA hi (zA hl8 hi8));clear hi hl8 hi8;have hd:=decide_eq_true q0;replace p0:=eq_true p0;replace q0:=eq_true q0;obtain⟨k1,rfl⟩:∃k1,gk=k1+1:=⟨gk- 1,by have:=HJ.out.2.2.1;have:=HI.out.1;omega⟩;go_wp2_with fail;refine(Js _).mono ?_;rintro e w2 ⟨rfl,hw⟩;obtain⟨eb,heb⟩:∃eb,wr.heap.size=eb:=⟨_,rfl⟩;have hBe:Below wr.heap.size wr w2:=by rw[←hw];exact ag (ag (Below.refl _ _) _) _
      have hfb:w2.heap[eb+1]?=some (.cells fns 53 (0,0)):=by
       rw[←hw,←heb];have:=bZ (wr.alloc (.cells #[.int .i64 (aX l i).f0,.string (aX l i).f1,.string (aX l i).f2.f0,.string (aX l i).f2.f1,.string (aX l i).f3.f0,.string (aX l i).f3.f1,.string (aX l i).f4,.int .i64 (aX l i).f5,.slice A8 (aX l i).f6.length c8,.int .i64 (aX l i).f7,.bool (aX l i).f8] 41)) (.cells fns 53);simpa using this
      have hee:w2.heap[eb]?=some (.cells #[.int .i64 (aX l i).f0,.string (aX l i).f1,.string (aX l i).f2.f0,.string (aX l i).f2.f1,.string (aX l i).f3.f0,.string (aX l i).f3.f1,.string (aX l i).f4,.int .i64 (aX l i).f5,.slice A8 (aX l i).f6.length c8,.int .i64 (aX l i).f7,.bool (aX l i).f8] 41 (0,0)):=by
       rw[←hw,←heb];exact fZ (bZ wr _) _
      have HE:=zM (zA hfb hee);have HB2:=zM (ah lV.out lV.out.size hBe);have ak4:=zM (Kd.dK HJ.out.2.2.2.1 hBe);have hsz2:(wr.alloc (.cells #[.int .i64 (aX l i).f0,.string (aX l i).f1,.string (aX l i).f2.f0,.string (aX l i).f2.f1,.string (aX l i).f3.f0,.string (aX l i).f3.f1,.string (aX l i).f4,.int .i64 (aX l i).f5,.slice A8 (aX l i).f6.length c8,.int .i64 (aX l i).f7,.bool (aX l i).f8] 41)).heap.size=eb+1:=by rw[←heb];simp
      rw[hsz2];rw[heb];have HX:=zM (zA (HC.out.2.2.2 _ (Pq HJ.out.1 HI.out.1)) (show iK (aX l i)=0 from by have h0:=HJ.out.1;have h1:=JD.out i.toNat (by have:=HI.out.1;omega);rwa [Int.toNat_of_nonneg h0]at h1));clear hw hfb hee hBe hsz2 hx0 hx1 hx2 hx3 hx4 hx5 hx6 hx7 ZV hx9 tX;go_wp2_with fail;go_loopg [13,51] 8 (fun kq v13 v51 W=>∃k:Nat,v51= .int .i64 (k:Int)∧Aside0 (k≤8∧8≤k+kq∧Kd.string.R 9 W w2.heap.size (fun _=>True) v13 ((eight (aX l i)).take k)∧Below w2.heap.size w2 W))
      case atStart=>exact⟨0,rfl,⟨by omega,by omega,Kd.jB _ _ _ _ _,Below.refl _ _⟩⟩
      case round=>
       obtain⟨k,rfl,HK⟩:=hrel;have HBk:=zM (ah HB2.out HB2.out.size HK.out.2.2.2);obtain⟨vk,vw,vz,vC,vF,vG,vH,Bh,Bi,Bj,nR⟩:=eleven (aT HE.out.2 HK.out.2.2.2);have hfk:=aT HE.out.1 HK.out.2.2.2;rcases(show k=0∨k=1∨k=2∨k=3∨k=4∨k=5∨k=6∨k=7∨k=8 from by have:=HK.out.1;omega)with rfl|rfl|rfl|rfl|rfl|rfl|rfl|rfl|rfl
       ·have cf:wr.cell? ⟨eb+1,0,none⟩=some (.func (.func 46) #[] #[]):=(aj hfk 0).trans rfl;clear hfk;obtain⟨wP,rfl⟩:∃k1,gk=k1+1:=⟨gk- 1,by have:=HK.out.2.1;omega⟩;go_wp2_with fail;refine(VJ (aX l i) A8 c8 _ (HX.out.1.fits HX.out.2) (HG.out.2.below HBk.out)).mono ?_;rintro e w3 ⟨rfl,hb⟩;have HRk:=zM (Kd.dK HK.out.2.2.1 hb);have AU:=zM (ah HK.out.2.2.2 HK.out.2.2.2.size hb);clear hb vk vw vz vC vF vG vH Bh Bi Bj nR cf;go_wp2_with (first|((with_reducible refine bK (b:= .append) (xs:= #[.tmp 55,.tmp 60]) rfl ?_);at_builtin;refine Kd.dZ Kd.string (w0:=w2) w2.heap.size rfl (.tmp 55) (.tmp 60) 30 9 (.string ⟨#[]⟩) 16 rfl Tryz.underlying30 info9 rfl (by decide) (by omega) u13 ((eight (aX l i)).take 0) (⟨(Lib.itoa (aX l i).f0).toArray⟩:ByteArray) [.string (⟨(Lib.itoa (aX l i).f0).toArray⟩:ByteArray)] (fun _=>True) (fun _=>False) rfl rfl ?aP (fun _ hk=>hk.elim) ?aF ?aO ?aB ?aS ?aL ?_;(case aP=>exact rfl);(case aF=>exact(fun _ _=>trivial));(case aO=>exact HRk.out);(case aB=>exact AU.out);(case aS=>exact AU.out.size);(case aL=>(have:=List.length_take_le 0 (eight (aX l i));omega));intro v1 w4 ho hb hg hat;have HN:=zM (zA ho hb);clear ho hb hg hat));go_roundg wP
        case measure=>omega
        case rel=>exact⟨1,by go_num,⟨by omega,by have:=HK.out.2.1;omega,HN.out.1,HN.out.2⟩⟩
       ·have cf:wr.cell? ⟨eb+1,1,none⟩=some (.func (.func 47) #[] #[]):=(aj hfk 1).trans rfl;clear hfk;obtain⟨wP,rfl⟩:∃k1,gk=k1+1:=⟨gk- 1,by have:=HK.out.2.1;omega⟩;go_wp2_with fail;refine(VK (aX l i) A8 c8 _ (HX.out.1.fits HX.out.2) (HG.out.2.below HBk.out)).mono ?_;rintro e w3 ⟨rfl,hb⟩;have HRk:=zM (Kd.dK HK.out.2.2.1 hb);have AU:=zM (ah HK.out.2.2.2 HK.out.2.2.2.size hb);clear hb vk vw vz vC vF vG vH Bh Bi Bj nR cf;go_wp2_with (first|((with_reducible refine bK (b:= .append) (xs:= #[.tmp 55,.tmp 60]) rfl ?_);at_builtin;refine Kd.dZ Kd.string (w0:=w2) w2.heap.size rfl (.tmp 55) (.tmp 60) 30 9 (.string ⟨#[]⟩) 16 rfl Tryz.underlying30 info9 rfl (by decide) (by omega) u13 ((eight (aX l i)).take 1) (⟨(Lib.itoa (aX l i).f7).toArray⟩:ByteArray) [.string (⟨(Lib.itoa (aX l i).f7).toArray⟩:ByteArray)] (fun _=>True) (fun _=>False) rfl rfl ?aP (fun _ hk=>hk.elim) ?aF ?aO ?aB ?aS ?aL ?_;(case aP=>exact rfl);(case aF=>exact(fun _ _=>trivial));(case aO=>exact HRk.out);(case aB=>exact AU.out);(case aS=>exact AU.out.size);(case aL=>(have:=List.length_take_le 1 (eight (aX l i));omega));intro v1 w4 ho hb hg hat;have HN:=zM (zA ho hb);clear ho hb hg hat));go_roundg wP
        case measure=>omega
        case rel=>exact⟨2,by go_num,⟨by omega,by have:=HK.out.2.1;omega,HN.out.1,HN.out.2⟩⟩
       ·have cf:wr.cell? ⟨eb+1,2,none⟩=some (.func (.func 48) #[] #[]):=(aj hfk 2).trans rfl;clear hfk;obtain⟨wP,rfl⟩:∃k1,gk=k1+1:=⟨gk- 1,by have:=HK.out.2.1;omega⟩;go_wp2_with fail;refine(VL (aX l i) A8 c8 _ (HX.out.1.fits HX.out.2) (HG.out.2.below HBk.out)).mono ?_;rintro e w3 ⟨rfl,hb⟩;have HRk:=zM (Kd.dK HK.out.2.2.1 hb);have AU:=zM (ah HK.out.2.2.2 HK.out.2.2.2.size hb);clear hb vk vw vz vC vF vG vH Bh Bi Bj nR cf;go_wp2_with (first|((with_reducible refine bK (b:= .append) (xs:= #[.tmp 55,.tmp 60]) rfl ?_);at_builtin;refine Kd.dZ Kd.string (w0:=w2) w2.heap.size rfl (.tmp 55) (.tmp 60) 30 9 (.string ⟨#[]⟩) 16 rfl Tryz.underlying30 info9 rfl (by decide) (by omega) u13 ((eight (aX l i)).take 2) (⟨(Lib.itoa (aX l i).f5).toArray⟩:ByteArray) [.string (⟨(Lib.itoa (aX l i).f5).toArray⟩:ByteArray)] (fun _=>True) (fun _=>False) rfl rfl ?aP (fun _ hk=>hk.elim) ?aF ?aO ?aB ?aS ?aL ?_;(case aP=>exact rfl);(case aF=>exact(fun _ _=>trivial));(case aO=>exact HRk.out);(case aB=>exact AU.out);(case aS=>exact AU.out.size);(case aL=>(have:=List.length_take_le 2 (eight (aX l i));omega));intro v1 w4 ho hb hg hat;have HN:=zM (zA ho hb);clear ho hb hg hat));go_roundg wP
        case measure=>omega
        case rel=>exact⟨3,by go_num,⟨by omega,by have:=HK.out.2.1;omega,HN.out.1,HN.out.2⟩⟩
       ·have cf:wr.cell? ⟨eb+1,3,none⟩=some (.func (.func 49) #[] #[]):=(aj hfk 3).trans rfl;clear hfk;obtain⟨wP,rfl⟩:∃k1,gk=k1+1:=⟨gk- 1,by have:=HK.out.2.1;omega⟩;go_wp2_with fail;refine(RD (aX l i) A8 c8 _ (HX.out.1.fits HX.out.2) (HG.out.2.below HBk.out)).mono ?_;rintro e w3 ⟨rfl,hb⟩;have HRk:=zM (Kd.dK HK.out.2.2.1 hb);have AU:=zM (ah HK.out.2.2.2 HK.out.2.2.2.size hb);clear hb vk vw vz vC vF vG vH Bh Bi Bj nR cf;go_wp2_with (first|((with_reducible refine bK (b:= .append) (xs:= #[.tmp 55,.tmp 60]) rfl ?_);at_builtin;refine Kd.dZ Kd.string (w0:=w2) w2.heap.size rfl (.tmp 55) (.tmp 60) 30 9 (.string ⟨#[]⟩) 16 rfl Tryz.underlying30 info9 rfl (by decide) (by omega) u13 ((eight (aX l i)).take 3) (Yg (aX l i).f8:ByteArray) [.string (Yg (aX l i).f8:ByteArray)] (fun _=>True) (fun _=>False) rfl rfl ?aP (fun _ hk=>hk.elim) ?aF ?aO ?aB ?aS ?aL ?_;(case aP=>exact rfl);(case aF=>exact(fun _ _=>trivial));(case aO=>exact HRk.out);(case aB=>exact AU.out);(case aS=>exact AU.out.size);(case aL=>(have:=List.length_take_le 3 (eight (aX l i));omega));intro v1 w4 ho hb hg hat;have HN:=zM (zA ho hb);clear ho hb hg hat));go_roundg wP
        case measure=>omega
        case rel=>exact⟨4,by go_num,⟨by omega,by have:=HK.out.2.1;omega,HN.out.1,HN.out.2⟩⟩
       ·have cf:wr.cell? ⟨eb+1,4,none⟩=some (.func (.func 50) #[] #[]):=(aj hfk 4).trans rfl;clear hfk;obtain⟨wP,rfl⟩:∃k1,gk=k1+1:=⟨gk- 1,by have:=HK.out.2.1;omega⟩;go_wp2_with fail;refine(VN (aX l i) A8 c8 _ (HX.out.1.fits HX.out.2) (HG.out.2.below HBk.out)).mono ?_;rintro e w3 ⟨rfl,hb⟩;have HRk:=zM (Kd.dK HK.out.2.2.1 hb);have AU:=zM (ah HK.out.2.2.2 HK.out.2.2.2.size hb);clear hb vk vw vz vC vF vG vH Bh Bi Bj nR cf;go_wp2_with (first|((with_reducible refine bK (b:= .append) (xs:= #[.tmp 55,.tmp 60]) rfl ?_);at_builtin;refine Kd.dZ Kd.string (w0:=w2) w2.heap.size rfl (.tmp 55) (.tmp 60) 30 9 (.string ⟨#[]⟩) 16 rfl Tryz.underlying30 info9 rfl (by decide) (by omega) u13 ((eight (aX l i)).take 4) ((esc (aX l i).f1):ByteArray) [.string ((esc (aX l i).f1):ByteArray)] (fun _=>True) (fun _=>False) rfl rfl ?aP (fun _ hk=>hk.elim) ?aF ?aO ?aB ?aS ?aL ?_;(case aP=>exact rfl);(case aF=>exact(fun _ _=>trivial));(case aO=>exact HRk.out);(case aB=>exact AU.out);(case aS=>exact AU.out.size);(case aL=>(have:=List.length_take_le 4 (eight (aX l i));omega));intro v1 w4 ho hb hg hat;have HN:=zM (zA ho hb);clear ho hb hg hat));go_roundg wP
        case measure=>omega
        case rel=>exact⟨5,by go_num,⟨by omega,by have:=HK.out.2.1;omega,HN.out.1,HN.out.2⟩⟩
       ·have cf:wr.cell? ⟨eb+1,5,none⟩=some (.func (.func 51) #[] #[]):=(aj hfk 5).trans rfl;clear hfk;obtain⟨wP,rfl⟩:∃k1,gk=k1+1:=⟨gk- 1,by have:=HK.out.2.1;omega⟩;go_wp2_with fail;refine(VO (aX l i) A8 c8 _ (HX.out.1.fits HX.out.2) (HG.out.2.below HBk.out)).mono ?_;rintro e w3 ⟨rfl,hb⟩;have HRk:=zM (Kd.dK HK.out.2.2.1 hb);have AU:=zM (ah HK.out.2.2.2 HK.out.2.2.2.size hb);clear hb vk vw vz vC vF vG vH Bh Bi Bj nR cf;go_wp2_with (first|((with_reducible refine bK (b:= .append) (xs:= #[.tmp 55,.tmp 60]) rfl ?_);at_builtin;refine Kd.dZ Kd.string (w0:=w2) w2.heap.size rfl (.tmp 55) (.tmp 60) 30 9 (.string ⟨#[]⟩) 16 rfl Tryz.underlying30 info9 rfl (by decide) (by omega) u13 ((eight (aX l i)).take 5) ((mf (aX l i).f2.f0 (aX l i).f2.f1):ByteArray) [.string ((mf (aX l i).f2.f0 (aX l i).f2.f1):ByteArray)] (fun _=>True) (fun _=>False) rfl rfl ?aP (fun _ hk=>hk.elim) ?aF ?aO ?aB ?aS ?aL ?_;(case aP=>exact rfl);(case aF=>exact(fun _ _=>trivial));(case aO=>exact HRk.out);(case aB=>exact AU.out);(case aS=>exact AU.out.size);(case aL=>(have:=List.length_take_le 5 (eight (aX l i));omega));intro v1 w4 ho hb hg hat;have HN:=zM (zA ho hb);clear ho hb hg hat));go_roundg wP
        case measure=>omega
        case rel=>exact⟨6,by go_num,⟨by omega,by have:=HK.out.2.1;omega,HN.out.1,HN.out.2⟩⟩
       ·have cf:wr.cell? ⟨eb+1,6,none⟩=some (.func (.func 52) #[] #[]):=(aj hfk 6).trans rfl;clear hfk;obtain⟨wP,rfl⟩:∃k1,gk=k1+1:=⟨gk- 1,by have:=HK.out.2.1;omega⟩;go_wp2_with fail;refine(VP (aX l i) A8 c8 _ (HX.out.1.fits HX.out.2) (HG.out.2.below HBk.out)).mono ?_;rintro e w3 ⟨rfl,hb⟩;have HRk:=zM (Kd.dK HK.out.2.2.1 hb);have AU:=zM (ah HK.out.2.2.2 HK.out.2.2.2.size hb);clear hb vk vw vz vC vF vG vH Bh Bi Bj nR cf;go_wp2_with (first|((with_reducible refine bK (b:= .append) (xs:= #[.tmp 55,.tmp 60]) rfl ?_);at_builtin;refine Kd.dZ Kd.string (w0:=w2) w2.heap.size rfl (.tmp 55) (.tmp 60) 30 9 (.string ⟨#[]⟩) 16 rfl Tryz.underlying30 info9 rfl (by decide) (by omega) u13 ((eight (aX l i)).take 6) ((mf (aX l i).f3.f0 (aX l i).f3.f1):ByteArray) [.string ((mf (aX l i).f3.f0 (aX l i).f3.f1):ByteArray)] (fun _=>True) (fun _=>False) rfl rfl ?aP (fun _ hk=>hk.elim) ?aF ?aO ?aB ?aS ?aL ?_;(case aP=>exact rfl);(case aF=>exact(fun _ _=>trivial));(case aO=>exact HRk.out);(case aB=>exact AU.out);(case aS=>exact AU.out.size);(case aL=>(have:=List.length_take_le 6 (eight (aX l i));omega));intro v1 w4 ho hb hg hat;have HN:=zM (zA ho hb);clear ho hb hg hat));go_roundg wP
        case measure=>omega
        case rel=>exact⟨7,by go_num,⟨by omega,by have:=HK.out.2.1;omega,HN.out.1,HN.out.2⟩⟩
       ·have cf:wr.cell? ⟨eb+1,7,none⟩=some (.func (.func 53) #[] #[]):=(aj hfk 7).trans rfl;clear hfk;obtain⟨wP,rfl⟩:∃k1,gk=k1+1:=⟨gk- 1,by have:=HK.out.2.1;omega⟩;go_wp2_with fail;refine(VQ (aX l i) A8 c8 _ (HX.out.1.fits HX.out.2) (HG.out.2.below HBk.out)).mono ?_;rintro e w3 ⟨rfl,hb⟩;have HRk:=zM (Kd.dK HK.out.2.2.1 hb);have AU:=zM (ah HK.out.2.2.2 HK.out.2.2.2.size hb);clear hb vk vw vz vC vF vG vH Bh Bi Bj nR cf;go_wp2_with (first|((with_reducible refine bK (b:= .append) (xs:= #[.tmp 55,.tmp 60]) rfl ?_);at_builtin;refine Kd.dZ Kd.string (w0:=w2) w2.heap.size rfl (.tmp 55) (.tmp 60) 30 9 (.string ⟨#[]⟩) 16 rfl Tryz.underlying30 info9 rfl (by decide) (by omega) u13 ((eight (aX l i)).take 7) ((esc (aX l i).f4):ByteArray) [.string ((esc (aX l i).f4):ByteArray)] (fun _=>True) (fun _=>False) rfl rfl ?aP (fun _ hk=>hk.elim) ?aF ?aO ?aB ?aS ?aL ?_;(case aP=>exact rfl);(case aF=>exact(fun _ _=>trivial));(case aO=>exact HRk.out);(case aB=>exact AU.out);(case aS=>exact AU.out.size);(case aL=>(have:=List.length_take_le 7 (eight (aX l i));omega));intro v1 w4 ho hb hg hat;have HN:=zM (zA ho hb);clear ho hb hg hat));go_roundg wP
        case measure=>omega
        case rel=>exact⟨8,by go_num,⟨by omega,by have:=HK.out.2.1;omega,HN.out.1,HN.out.2⟩⟩
       ·clear hfk;have alu:=Kd.ji HI.out.2.2 (ah HB2.out HB2.out.size HK.out.2.2.2);have HK8:=zM (zA (show Kd.string.R 9 wr w2.heap.size (fun _=>True) u13 (eight (aX l i))from HK.out.2.2.1) HK.out.2.2.2);clear alu;go_wp2_with fail;go_loopg [13,66] (aX l i).f6.length (fun kq v13 v66 W=>∃m:Int,v66= .int .i64 m∧Aside0 (0≤m∧m≤(aX l i).f6.length∧(aX l i).f6.length≤m+kq∧Kd.string.R 9 W w2.heap.size (fun _=>True) v13 (eight (aX l i)++((aX l i).f6.take m.toNat).map esc)∧Below w2.heap.size w2 W))
        case atStart=>exact⟨0,rfl,⟨by omega,by omega,by omega,by simpa using HK8.out.1,HK8.out.2⟩⟩
        case round=>
         obtain⟨m,rfl,HM⟩:=hrel;have HBm:=zM (ah HB2.out HB2.out.size HM.out.2.2.2.2);have ht8:=Jm HX.out.2;have HT8:=zM ht8;clear ht8
         by_cases hm:m<(aX l i).f6.length
         ·obtain⟨ad8,e8,htc⟩:=Kd.jI HI.out.2.2 m HM.out.1 hm;cases e8;replace htc:=aI HBm.out htc;obtain⟨tg,htg⟩:∃tg,jg ByteArray.empty (aX l i).f6 m=tg:=⟨_,rfl⟩
          have htm:tg∈(aX l i).f6∧(aX l i).f6.take (m.toNat+1)=(aX l i).f6.take m.toNat++[tg]:=by
           have hmn:m.toNat<(aX l i).f6.length:=by have:=HM.out.1;omega
           have e:tg=(aX l i).f6[m.toNat]:=by rw[←htg];simp[jg,hmn]
           rw[e];exact⟨List.getElem_mem _,List.take_succ_eq_append_getElem hmn⟩
          rw[htg]at htc;have p1:=eq_true HM.out.1;have q1:=eq_true hm;have hdm:=decide_eq_true hm;have HTG:=zM (zA hm htm);obtain⟨wP,rfl⟩:∃k1,gk=k1+1:=⟨gk- 1,by have:=HM.out.2.2.1;omega⟩;clear hm htm htg;go_wp2_with fail;refine(qR tg _ (by have:=HX.out.1.s6 tg HTG.out.2.1;omega)).mono ?_;rintro e w3 ⟨rfl,hb⟩;have HRk:=zM (Kd.dK HM.out.2.2.2.1 hb);have AU:=zM (ah HM.out.2.2.2.2 HM.out.2.2.2.2.size hb);clear hb htc;go_wp2_with (first|((with_reducible refine bK (b:= .append) (xs:= #[.tmp 70,.tmp 73]) rfl ?_);at_builtin;refine Kd.dZ Kd.string (w0:=w2) w2.heap.size rfl (.tmp 70) (.tmp 73) 30 9 (.string ⟨#[]⟩) 16 rfl Tryz.underlying30 info9 rfl (by decide) (by omega) u13 (eight (aX l i)++((aX l i).f6.take m.toNat).map esc) (esc tg) [.string (esc tg)] (fun _=>True) (fun _=>False) rfl rfl ?aP (fun _ hk=>hk.elim) ?aF ?aO ?aB ?aS ?aL ?_;(case aP=>exact rfl);(case aF=>exact(fun _ _=>trivial));(case aO=>exact HRk.out);(case aB=>exact AU.out);(case aS=>exact AU.out.size);(case aL=>(have h1:=List.length_take_le' m.toNat (aX l i).f6;have h2:=HT8.out;have h3:(eight (aX l i)).length=8:=rfl;rw[List.length_append,List.length_map,h3];omega));intro v1 w4 ho hb hg hat;have HN:=zM (zA ho hb);clear ho hb hg hat));go_roundg wP
          case measure=>omega
          case rel=>
           have hm:=HTG.out.1;have ht:=HT8.out;have h0:=HM.out.1;refine⟨m+1,congrArg (Value.int .i64) (fD (by omega) (by omega)),⟨by omega,by omega,by have:=HM.out.2.2.1;omega,?_,HN.out.2⟩⟩;have e:(m+1).toNat=m.toNat+1:=by omega
           rw[e,HTG.out.2.2,List.map_append,←List.append_assoc];exact HN.out.1
         ·have hdm:=zF hm;have he:m.toNat=(aX l i).f6.length:=by have:=HM.out.2.1;have:=HM.out.1;omega
          have hR:=HM.out.2.2.2.1;rw[he,List.take_length]at hR;have HR:=zM (show Kd.string.R 9 wr w2.heap.size (fun _=>True) u13 (parts (aX l i))from hR);have HBo:=zM (Kd.dK ak4.out HM.out.2.2.2.2);clear hm he hR;go_wp2_with fail;refine(KU u13 (parts (aX l i)) w2.heap.size (fun _=>True) _ HR.out (XR _) (by have:=(GL HX.out.2).1;omega) (by have:=Ef HX.out.1 HX.out.2;omega)).mono ?_;rintro e w3 ⟨rfl,hb⟩;have HOo:=zM (Kd.jd (Kd.dK HBo.out hb));have HB3:=zM (ah HBm.out HBm.out.size hb);have HLn:=zM (show(jn (parts (aX l i))).size≤33554448 by rw[←bytesOf_length,xq];exact Ef HX.out.1 HX.out.2);clear hb;go_upto_region 28 with(first|((with_reducible refine bK (b:= .append) (xs:= #[.tmp 76,.tmp 78]) rfl ?_);at_builtin;refine Ad (w0:=w) w.heap.size rfl (.tmp 76) (.tmp 78) 50 9 5 rfl Tryz.underlying50 Tryz.underlying9 info5 u10 (lines (l.take i.toNat)) (jn (parts (aX l i))) rfl rfl ?aO ?aB ?aS ?aL ?_;(case aO=>exact HOo.out);(case aB=>exact HB3.out);(case aS=>exact HB3.out.size);(case aL=>(have:=HJ.out.2.2.2.2.1;have:=HLn.out;omega));intro v1 w4 ho hb hg;rw[xq]at ho;have HN:=zM (zA (show Rb w4 w.heap.size v1 (lines (l.take i.toNat)++RY (parts (aX l i)))from Kd.iR ho (fun k hk=>own_base ho k hk)) hb);clear ho hb hg)|((with_reducible refine bK (b:= .append) (xs:= #[.tmp 80,.tmp 81]) rfl ?_);at_builtin;refine Kd.dZ (Kd.int .u8) (w0:=w) w.heap.size rfl (.tmp 80) (.tmp 81) 50 5 (.int .u8 0) 1 rfl Tryz.underlying50 info5 rfl (by decide) (by omega) v1 (lines (l.take i.toNat)++RY (parts (aX l i))) 10 [.int .u8 10] (fun k=>w.heap.size≤k) (fun _=>False) rfl rfl ?aP (fun _ hk=>hk.elim) ?aF ?aO ?aB ?aS ?aL ?_;(case aP=>exact rfl);(case aF=>exact(fun k hk=>Nat.le_trans HN.out.2.size hk));(case aO=>exact HN.out.1);(case aB=>exact HN.out.2);(case aS=>exact HN.out.2.size);(case aL=>(have:=HJ.out.2.2.2.2.1;have:=Ef HX.out.1 HX.out.2;rw[List.length_append];omega));intro v2 w5 ho hb hg hat;obtain⟨A2,c2,hv,_,_⟩:=Kd.jE ho;obtain⟨N5,hN5⟩:∃N,(lines (l.take i.toNat)++RY (parts (aX l i))++[10]).length=N:=⟨_,rfl⟩;rw[hN5]at hv;subst hv;have HN2:=zM (zA ho (zA hb hN5));clear ho hb hg hat hN5 HN))
          have abl:lines (l.take i.toNat)++RY (parts (aX l i))++[10]=lines (l.take (i.toNat+1)):=by
           have h0:=HJ.out.1;have h1:=HI.out.1;rw[Oz l i.toNat (by omega),←xU (by omega),Int.toNat_of_nonneg h0,List.append_assoc];rfl
          have HL:=zM abl;clear abl
          by_cases h5:65536<N5
          ·have h51:=zT h5;have h52:decide ((65536:Int)<(N5:Int))=true:=decide_eq_true (by omega);have H5:=zM h5;clear h5;go_wp2_with fail;go_ret3;refine⟨?_,HN2.out.2.1⟩;unfold O1;rw[XV JD.out Hy.out (i.toNat+1) (by have h6:=HN2.out.2.2;rw[HL.out]at h6;rw[h6];exact H5.out)];rfl
          ·have h51:=zF h5;have h52:decide ((65536:Int)<(N5:Int))=false:=decide_eq_false (by omega);have H5:=zM h5;clear h5;go_wp2_with fail;go_roundg k1
           case measure=>omega
           case rel=>
            have h0:=HJ.out.1;have h1:=HI.out.1;have h2:=HC.out.2.2.1;have e:(i+1).toNat=i.toNat+1:=by omega
            have h6:=HN2.out.2.2;have h7:=HN2.out.1;rw[HL.out]at h6 h7;refine⟨i+1,congrArg (Value.int .i64) (fD (by omega) (by omega)),⟨by omega,by omega,by have:=HJ.out.2.2.1;omega,?_,?_,HN2.out.2.1⟩⟩
            ·rw[e,←h6];rw[←h6]at h7;exact h7
            ·rw[e,h6];have:=H5.out;omega
     ·have hd:=zF hi;have he:i.toNat=l.length:=by have:=HJ.out.2.1;have:=HJ.out.1;omega
      have hO:=HJ.out.2.2.2.1;have hO2:=HJ.out.2.2.2.2.1;rw[he,List.take_length]at hO hO2;obtain⟨A2,c2,hv,_,hC2⟩:=Kd.jE hO;subst hv;have hcv:=Kd.yj (P:=Tryz.prog) (c:=c2) (src:=50) (dst:=9) (e:=5) Tryz.underlying50 Tryz.underlying5 Tryz.underlying9 hC2;obtain⟨N6,hN6⟩:∃N,(lines l).length=N:=⟨_,rfl⟩;rw[hN6]at hcv;rw[hN6];have HO:=zM hO2;clear hi he hO hO2 hC2 hN6;go_wp2_with fail;go_ret3;refine⟨?_,lV.out⟩;unfold O1;rw[XX JD.out Hy.out (by have:=HO.out;omega)];rfl
def mark:ByteArray:=⟨#[52,51,50,49]⟩
theorem aaq (xs:List ByteArray)(hx:xs.length≤1048576):∀(d i:Nat),i+d=xs.length→∀k,d<k→bG.l0 k xs xs (i:Int)=some true:=by
 intro d
 induction d with
 |zero=>
  intro i hi k hk;obtain⟨k,rfl⟩:∃m,k=m+1:=⟨k- 1,by omega⟩;simp only[bG.l0];rw[if_neg (by omega)]
 |succ d ih=>
  intro i hi k hk;obtain⟨k,rfl⟩:∃m,k=m+1:=⟨k- 1,by omega⟩;simp only[bG.l0];have hw:wrap64 ((i:Int)+1)=((i+1:Nat):Int):=by rw[fD (by omega) (by omega)];omega
  rw[if_pos (by omega),if_pos (by omega),if_pos (by omega),if_pos True.intro,hw];exact ih (i+1) (by omega) k (by omega)
theorem Yl (xs:List ByteArray)(hx:xs.length≤1048576):bW.f (xs.length+1) xs xs=some true:=by
 have e:∀k (xs:List ByteArray) i,bW.l0 k xs xs i=bG.l0 k xs xs i:=by
  intro k
  induction k with
  |zero=>intro xs i;rfl
  |succ k ih=>intro xs i;simp only[bW.l0,bG.l0,ih]
 unfold bW.f;rw[if_pos rfl,e];exact aaq xs hx xs.length 0 (by omega) _ (by omega)
end Go.Proofs.YthbdjmopolpjmaaGreatDoor.C
namespace Go.Proofs.YthbdjmopolpjmaaGreatDoor.C
open Go.RowKit Go.Proofs.YthbdjmopolpjmaaGreatDoorW.PrintWords Go.Proofs.YthbdjmopolpjmaaGreatDoorW.PrintLast Go.Proofs.YthbdjmopolpjmaaGreatDoorW.PrintMore Go.Proofs.YthbdjmopolpjmaaGreatDoor.F Go.Proofs.YthbdjmopolpjmaaGreatDoor.M
theorem Zy:∀(m:Nat) (l:List ByteArray) (i:Nat),l.length≤1000000→i+m=l.length→bD.l0 (m+1) l (i:Int)=some ():=by
 intro m
 induction m with
 |zero=>
  intro l i hl hi;unfold bD.l0
  have h1:wrap64 (((l++[(⟨#[98,101,104,105,110,100]⟩:ByteArray)]).length:Int)- 1)=(l.length:Int):=by
   rw[List.length_append,List.length_singleton,fD (by omega) (by omega)];omega
  rw[if_neg (by omega),if_pos (by omega),Option.bind_some,h1,if_pos (by omega),if_pos (by rw[List.length_append,List.length_singleton];omega)]
 |succ m ih=>
  intro l i hl hi;unfold bD.l0;rw[if_pos (by omega),if_pos (by omega),fD (by omega) (by omega)];exact ih _ (i+1) (by rw[List.length_set];exact hl) (by rw[List.length_set];omega)
theorem Og (l:List ByteArray)(hl:l.length≤1000000):bD.f (l.length+1) l=some ():=Zy l.length l 0 hl (by omega)
attribute [local go_sem] max2_int min2_int max_two min_two max_three min_three max_four min_four
def behind:iU:=⟨0,mark,⟨⟨#[]⟩,⟨#[]⟩⟩,⟨⟨#[]⟩,⟨#[]⟩⟩,⟨#[]⟩,0,[],0,false⟩
theorem zU (x:iU)(A A2:Option Addr)(c c2:Nat)(w:World)(hC:Kd.string.C w A x.f6.length x.f6)(hc:x.f6.length≤c)(hC2:Kd.string.C w A2 x.f6.length x.f6)(hc2:x.f6.length≤c2)(hl:x.f6.length≤1048576):
  Calls Tryz.prog 35 #[EV x A c,EV x A2 c2] w fun e w'=>e= .returned (.slice none 0 0)∧Below w.heap.size w w':=by
 have HC:=zM (zA hC (zA hc (zA hC2 (zA hc2 hl))));have oV:=zM (ag (ag (Below.refl w.heap.size w) (.cells #[.int .i64 x.f0,.string x.f1,.string x.f2.f0,.string x.f2.f1,.string x.f3.f0,.string x.f3.f1,.string x.f4,.int .i64 x.f5,.slice A x.f6.length c,.int .i64 x.f7,.bool x.f8] 41)) (.cells #[.int .i64 x.f0,.string x.f1,.string x.f2.f0,.string x.f2.f1,.string x.f3.f0,.string x.f3.f1,.string x.f4,.int .i64 x.f5,.slice A2 x.f6.length c2,.int .i64 x.f7,.bool x.f8] 41));have h39:=agB;clear hC hc hC2 hc2 hl;go_enter Tryz.func35,Tryz.ntmps35;unfold EV;go_wp2_with fail;refine(bW.calls (x.f6.length+1) A c x.f6 A2 c2 x.f6 true _ (Kd.ji HC.out.1 oV.out) HC.out.2.1 (Kd.ji HC.out.2.2.1 oV.out) HC.out.2.2.2.1 (Yl x.f6 HC.out.2.2.2.2)).mono ?_;rintro e w1 ⟨rfl,hd⟩;have HD:=zM (ah oV.out (by simp;omega) hd.below);have g9:=cell_later (a:=⟨w.heap.size,9,none⟩) (v:= .int .i64 x.f7) hd.below (by simp);have g10:=cell_later (a:=⟨w.heap.size,10,none⟩) (v:= .bool x.f8) hd.below (by simp);have k9:=cell_later (a:=⟨w.heap.size+1,9,none⟩) (v:= .int .i64 x.f7) hd.below (by simp);have k10:=cell_later (a:=⟨w.heap.size+1,10,none⟩) (v:= .bool x.f8) hd.below (by simp);clear hd;go_wp2_with fail;go_ret;exact⟨rfl,HD.out⟩
theorem GX (A A2:Option Addr)(c c2:Nat)(l:List iU)(w:World)(hC:EP.C w A l.length l)(hc:l.length≤c)(hC2:EP.C w A2 l.length l)(hc2:l.length≤c2)(hl:l.length≤1048576)(ht:∀x∈l,x.f6.length≤1048576):
  Calls Tryz.prog 16 #[.slice A l.length c,.slice A2 l.length c2] w fun e w'=>e= .returned (.bool true)∧Below w.heap.size w w':=by
 have HC:=zM (zA hC (zA hC2 (zA hl ht)));have hlm:=eq_true (show l.length≤9223372036854775807 by omega);clear hC hc hC2 hc2 hl ht;go_enter Tryz.func16,Tryz.ntmps16;go_wp2_with fail;go_loopg [5] l.length (fun kq v5 W=>∃i:Int,v5= .int .i64 i∧Aside0 (0≤i∧i≤l.length∧l.length≤i+kq∧Below w.heap.size w W))
 case atStart=>exact⟨0,rfl,⟨by omega,by omega,by omega,Below.refl _ _⟩⟩
 case round=>
  obtain⟨i,rfl,HJ⟩:=hrel;have lV:=zM HJ.out.2.2.2
  by_cases hi:i<l.length
  ·have p0:=HJ.out.1;have q0:=hi;obtain⟨ada,Aa,ca,ea,ax0,ax1,ax2,ax3,ax4,ax5,ax6,ax7,ax8,ax9,ac8,al8,ai8⟩:=Il HC.out.1 i p0 q0;cases ea;replace ax0:=aI lV.out ax0;replace ax1:=aI lV.out ax1;replace ax2:=aI lV.out ax2;replace ax3:=aI lV.out ax3;replace ax4:=aI lV.out ax4;replace ax5:=aI lV.out ax5;replace ax6:=aI lV.out ax6;replace ax7:=aI lV.out ax7;replace ax8:=aI lV.out ax8;replace ax9:=aI lV.out ax9;replace ac8:=aI lV.out ac8;obtain⟨adb,Ab,cb,eb,bx0,bx1,bx2,bx3,bx4,bx5,bx6,bx7,bx8,bx9,acb,bl8,bi8⟩:=Il HC.out.2.1 i p0 q0;cases eb;replace bx0:=aI lV.out bx0;replace bx1:=aI lV.out bx1;replace bx2:=aI lV.out bx2;replace bx3:=aI lV.out bx3;replace bx4:=aI lV.out bx4;replace bx5:=aI lV.out bx5;replace bx6:=aI lV.out bx6;replace bx7:=aI lV.out bx7;replace bx8:=aI lV.out bx8;replace bx9:=aI lV.out bx9;replace acb:=aI lV.out acb;have HI:=zM (zA hi (zA (Kd.ji ai8 lV.out) (zA al8 (zA (Kd.ji bi8 lV.out) bl8))));obtain⟨k1,rfl⟩:∃k1,gk=k1+1:=⟨gk- 1,by have:=HJ.out.2.2.1;omega⟩;clear hi al8 ai8 bl8 bi8;have hd:=decide_eq_true q0;replace p0:=eq_true p0;replace q0:=eq_true q0;go_upto_region 6 with(fail);go_still_tail 8,(by kernel_rfl)
   change wpList _ _ _ _ _ wr.drew
   have hdr:Below wr.heap.size wr wr.drew:=dB (Below.refl _ _);go_wp2_with fail;refine(zU (aX l i) Aa Ab ca cb _ (Kd.ji HI.out.2.1 hdr) HI.out.2.2.1 (Kd.ji HI.out.2.2.2.1 hdr) HI.out.2.2.2.2 (HC.out.2.2.2 _ (Pq HJ.out.1 HI.out.1))).mono ?_;rintro e w2 ⟨rfl,hb⟩;have hB2:Below wr.heap.size wr w2:=ah hdr hdr.size hb;have HB2:=zM (ah lV.out lV.out.size hB2);replace ax0:=aI hB2 ax0;replace bx0:=aI hB2 bx0;clear hB2 hb hdr ax1 ax2 ax3 ax4 ax5 ax6 ax7 ax8 ax9 ac8 bx1 bx2 bx3 bx4 bx5 bx6 bx7 bx8 bx9 acb;have hne:((aX l i).f0 !=(aX l i).f0)=false:=by simp
   go_upto_region 7 with(fail);go_quiet (fail);go_wp2_with fail;go_roundg k1
   case measure=>omega
   case rel=>
    have h0:=HJ.out.1;have h1:=HI.out.1;have h2:=HC.out.2.2.1;exact⟨i+1,congrArg (Value.int .i64) (fD (by omega) (by omega)),⟨by omega,by omega,by have:=HJ.out.2.2.1;omega,ai HB2.out _⟩⟩
  ·have hd:=zF hi;clear hi;go_wp2_with fail;go_ret;exact⟨rfl,lV.out⟩
theorem Xv (w:World):EP.C (w.alloc (.cells #[.int .i64 1,.string ⟨#[108,101,110,103,116,104]⟩,.string ⟨#[53]⟩,.string ⟨#[49]⟩,.string ⟨#[48]⟩,.string ⟨#[49]⟩,.string ⟨#[109]⟩,.int .i64 3,.slice none 0 0,.int .i64 0,.bool false] 41)) (some ⟨w.heap.size,0,none⟩) 1 [kn]:=by
 refine⟨rfl,by omega,fun _=>⟨_,rfl,fun j p hj=>?_⟩⟩
 have hj0:j=0:=by
  have:=(List.getElem?_eq_some_iff.1 hj).1;simpa using this
 subst hj0;obtain rfl:kn=p:=by simpa using hj
 refine⟨_,?_,adn _ kn (A8:=none) (c8:=0) (Nat.le_refl _) ⟨rfl,by show(0:Nat)≤_;omega,fun h=>absurd h (by show¬(0<0);omega)⟩,fun i u hu=>?_⟩
 ·rfl
 ·rw[add_plain];have hb:=bZ w (.cells #[.int .i64 1,.string ⟨#[108,101,110,103,116,104]⟩,.string ⟨#[53]⟩,.string ⟨#[49]⟩,.string ⟨#[48]⟩,.string ⟨#[49]⟩,.string ⟨#[109]⟩,.int .i64 3,.slice none 0 0,.int .i64 0,.bool false] 41);rw[Nat.zero_mul,Nat.zero_add,aj hb i];rw[←hu];simp only[List.getElem?_toArray];rfl
theorem Ox (w:World)(hg:BI w)(hp:Pow w):Calls Tryz.prog 11 #[] w fun e w'=>e= .returned (.bool true)∧Below w.heap.size w w':=by
 have hb0:=ag (Below.refl w.heap.size w) (.cells #[.int .i64 1,.string ⟨#[108,101,110,103,116,104]⟩,.string ⟨#[53]⟩,.string ⟨#[49]⟩,.string ⟨#[48]⟩,.string ⟨#[49]⟩,.string ⟨#[109]⟩,.int .i64 3,.slice none 0 0,.int .i64 0,.bool false] 41);have HH:=zM (zA hb0 (zA (hg.below hb0) (hp.below hb0)));have HK:=zM (Xv w);clear hg hp hb0;go_enter Tryz.func11,Tryz.ntmps11;go_wp2_with fail;refine(DF _ 1 [kn] _ HK.out (Nat.le_refl _) (by simp) (fun x hx=>by rw[List.mem_singleton.1 hx];exact Xw) HH.out.2.1 HH.out.2.2).mono ?_;rintro e w1 ⟨rfl,hb⟩;have HB:=zM (ah HH.out.1 HH.out.1.size hb);clear hb;have hpv:O1 [kn]= .tuple #[.string ⟨#[49,9,48,9,51,9,43,9,108,101,110,103,116,104,9,53,9,48,9,109,10]⟩,.int .i64 0,.int .i64 0]:=by unfold O1;rw[ads]
 rw[hpv];clear hpv;have hkk:((⟨#[49,9,48,9,51,9,43,9,108,101,110,103,116,104,9,53,9,48,9,109,10]⟩:ByteArray).toList==[49,9,48,9,51,9,43,9,108,101,110,103,116,104,9,53,9,48,9,109,10])=true:=by rw[ByteArray.toList_eq];rfl
 go_wp2_with fail;go_ret;exact⟨rfl,HB.out⟩
end Go.Proofs.YthbdjmopolpjmaaGreatDoor.C
