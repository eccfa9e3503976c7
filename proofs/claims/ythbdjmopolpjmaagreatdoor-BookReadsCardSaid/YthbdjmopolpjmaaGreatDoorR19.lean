/- Part 19 of the proof. -/
import Derived.Test.YthbdjmopolpjmaaGreatDoorR18
set_option linter.unusedVariables false
set_option linter.unusedSimpArgs false
set_option maxHeartbeats 8000000
set_option maxRecDepth 100000
namespace Go.Proofs.YthbdjmopolpjmaaGreatDoor.C
open Go.RowKit Go.Proofs.YthbdjmopolpjmaaGreatDoorW.PrintWords Go.Proofs.YthbdjmopolpjmaaGreatDoorW.PrintLast Go.Proofs.YthbdjmopolpjmaaGreatDoorW.PrintMore Go.Proofs.YthbdjmopolpjmaaGreatDoor.F Go.Proofs.YthbdjmopolpjmaaGreatDoor.M
attribute [local go_sem] max2_int min2_int max_two min_two max_three min_three max_four min_four
def kC (f:Fm):ByteArray:=if f.exp.size=0 then⟨#[]⟩else eP f.exp
def Ag (f:Fm):ByteArray:=if f.Ce=true then eP f.den else⟨#[]⟩
theorem seven {W:World}{b t:Nat}{v0 v1 v2 v3 v4 v5 v6:Value}(h:W.heap[b]?=some (.cells #[v0,v1,v2,v3,v4,v5,v6] t (0,0))):W.cell? ⟨b,0,none⟩=some v0∧W.cell? ⟨b,1,none⟩=some v1∧W.cell? ⟨b,2,none⟩=some v2∧W.cell? ⟨b,3,none⟩=some v3∧W.cell? ⟨b,4,none⟩=some v4∧W.cell? ⟨b,5,none⟩=some v5∧W.cell? ⟨b,6,none⟩=some v6:=
 ⟨(aj h 0).trans rfl,(aj h 1).trans rfl,(aj h 2).trans rfl,(aj h 3).trans rfl,(aj h 4).trans rfl,(aj h 5).trans rfl,(aj h 6).trans rfl⟩
theorem iE {W:World}{b:Nat}{cs:Array Value}{t:TypeId}(h:W.heap[b]?=some (.cells cs t (0,0))):
  W.frozen? ⟨b,0,none⟩=false∧W.frozen? ⟨b,1,none⟩=false∧W.frozen? ⟨b,2,none⟩=false∧W.frozen? ⟨b,3,none⟩=false∧W.frozen? ⟨b,4,none⟩=false∧W.frozen? ⟨b,5,none⟩=false∧W.frozen? ⟨b,6,none⟩=false:=
 ⟨au h 0,au h 1,au h 2,au h 3,au h 4,au h 5,au h 6⟩
theorem LK {W:World}{b:Nat}{u0 u1 u2 u3 u4 u5 u6:Value}(h:W.heap[b]?=some (.cells #[u0,u1,u2,u3,u4,u5,u6] 226 (0,0)))(v0 v1 v2 v3 v4 v5 v6:Value):
  (((((((W.setCell ⟨b,0,none⟩ v0).setCell ⟨b,1,none⟩ v1).setCell ⟨b,2,none⟩ v2).setCell ⟨b,3,none⟩ v3).setCell ⟨b,4,none⟩ v4).setCell ⟨b,5,none⟩ v5).setCell ⟨b,6,none⟩ v6).heap[b]?=some (.cells #[v0,v1,v2,v3,v4,v5,v6] 226 (0,0)):=by
 have h:=aN (aN (aN (aN (aN (aN (aN h 0 v0) 1 v1) 2 v2) 3 v3) 4 v4) 5 v5) 6 v6;simpa using h
theorem uo {B:Nat}{w W:World}(h:Below B w W){b:Nat}(hb:B≤b)(v0 v1 v2 v3 v4 v5 v6:Value):
  Below B w (((((((W.setCell ⟨b,0,none⟩ v0).setCell ⟨b,1,none⟩ v1).setCell ⟨b,2,none⟩ v2).setCell ⟨b,3,none⟩ v3).setCell ⟨b,4,none⟩ v4).setCell ⟨b,5,none⟩ v5).setCell ⟨b,6,none⟩ v6):=
 ((((((h.setCell hb _).setCell hb _).setCell hb _).setCell hb _).setCell hb _).setCell hb _).setCell hb _
structure FB (w:World)(eb cb:Nat)(W:World)(r1:Bool)(r2 r3:ByteArray)(r4:Bool)(r5:Int)(r6:ByteArray)(r7:Int):Prop where
 bel:Below w.heap.size w W
 e:W.heap[eb]?=some (.cells #[.bool false,.string ⟨#[]⟩,.string ⟨#[]⟩,.bool false,.int .i64 0,.string ⟨#[]⟩,.int .i64 0] 226 (0,0))
 c:W.heap[cb]?=some (.cells #[.bool r1,.string r2,.string r3,.bool r4,.int .i64 r5,.string r6,.int .i64 r7] 226 (0,0))
section
variable {w W W2 : World} {eb cb : Nat} {r1 r4 q1 q4 : Bool} {r2 r3 r6 q2 q3 q6 : ByteArray} {r5 r7 q5 q7 : Int}
theorem FB.below (h:FB w eb cb W r1 r2 r3 r4 r5 r6 r7)(hb:Below W.heap.size W W2):FB w eb cb W2 r1 r2 r3 r4 r5 r6 r7:=⟨ah h.bel h.bel.size hb,aT h.e hb,aT h.c hb⟩
theorem FB.set (h:FB w eb cb W r1 r2 r3 r4 r5 r6 r7)(hn:eb≠cb)(hx:w.heap.size≤cb)(j:Nat)(u:Value)
  (he:(#[.bool r1,.string r2,.string r3,.bool r4,.int .i64 r5,.string r6,.int .i64 r7]:Array Value).setIfInBounds j u= #[.bool q1,.string q2,.string q3,.bool q4,.int .i64 q5,.string q6,.int .i64 q7]):
  FB w eb cb (W.setCell ⟨cb,j,none⟩ u) q1 q2 q3 q4 q5 q6 q7:=
 ⟨h.bel.setCell (p:=⟨cb,j,none⟩) hx _,jm (p:=⟨cb,j,none⟩) h.e hn _,by rw[←he];exact aN h.c j u⟩
end
theorem yY (s:ByteArray)(i:Nat)(w:World)(hs:s.size≤1000000)(hi:i≤s.size):Calls Tryz.prog 199 #[.string s,.int .i64 (i:Int)] w fun e w'=>e= .returned (.int .i64 ((eG s i:Nat):Int))∧Below w.heap.size w w':=by
 obtain⟨k,hk⟩:=(Ti s i hs hi).rounds;exact(df.calls k s (i:Int) _ w hk).mono fun e w' h=>⟨h.1,h.2.below⟩
theorem rO (t:ByteArray)(w:World):Calls Tryz.prog 200 #[.string t] w fun e w'=>e= .returned (.string (if t.size=0 then t else eP t))∧Below w.heap.size w w':=by
 by_cases h:t.size=0
 ·obtain⟨k,hk⟩:=(NS t h).rounds;rw[if_pos h];exact(bQ.calls k t t w hk).mono fun e w' h=>⟨h.1,h.2.below⟩
 ·obtain⟨k,hk⟩:=(NT t (by omega)).rounds;rw[if_neg h];exact(bQ.calls k t _ w hk).mono fun e w' h=>⟨h.1,h.2.below⟩
theorem vS (s:ByteArray)(i j:Nat)(h1:i≤j)(h2:j≤s.size):∀W:World,(Instr.slice 9 (.string s) (some (.int .i64 (i:Int))) (some (.int .i64 (j:Int))) none).run Tryz.prog W= .ok (.string (s.extract i j)) W:=by
 intro W;rw[run_slice_string (P:=Tryz.prog) W 9 s .i64 .i64 (i:Int) (j:Int) Tryz.underlying9 (by omega) (by omega) (by omega)];simp
theorem Gf (t:ByteArray):∃b,(t.toList==[])=b∧(t.toList !=[])= !b∧(b=true↔t.size=0):=by
 refine⟨_,rfl,rfl,?_⟩;rw[ByteArray.toList_eq];have h:=bV t;cases hh:t.data.toList with
 |nil=>rw[hh]at h;simp at h;simp[←h]
 |cons a b=>
  rw[hh,List.length_cons]at h;exact⟨fun h0=>Bool.noConfusion h0,fun h0=>by omega⟩
def jP (s:ByteArray)(w:World)(e:Ending)(w':World):Prop:=Below w.heap.size w w'∧((gp s=none∧∃r1 r2 r3 r4 r5 r6 r7 r8,0≤r8∧e= .returned (.tuple #[.agg #[.bool r1,.string r2,.string r3,.bool r4,.int .i64 r5,.string r6,.int .i64 r7],.int .i64 r8]))∨
   ∃f,gp s=some f∧e= .returned (.tuple #[.agg #[.bool f.neg,.string (eP f.m),.string (kC f),.bool f.down,.int .i64 f.behind,.string (Ag f),.int .i64 f.slash],.int .i64 (-1)]))
theorem jP.no {s:ByteArray}{w w':World}{e:Ending}(hb:Below w.heap.size w w')(hn:gp s=none){r1:Bool}{r2 r3:ByteArray}{r4:Bool}{r5:Int}{r6:ByteArray}{r7:Int}(r8:Nat)(he:e= .returned (.tuple #[.agg #[.bool r1,.string r2,.string r3,.bool r4,.int .i64 r5,.string r6,.int .i64 r7],.int .i64 (r8:Int)])):jP s w e w':=⟨hb,.inl ⟨hn,r1,r2,r3,r4,r5,r6,r7,(r8:Int),by omega,he⟩⟩
theorem jP.yes {s:ByteArray}{w w':World}{e:Ending}(hb:Below w.heap.size w w')(f:Fm)(hf:gp s=some f)(he:e= .returned (.tuple #[.agg #[.bool f.neg,.string (eP f.m),.string (kC f),.bool f.down,.int .i64 f.behind,.string (Ag f),.int .i64 f.slash],.int .i64 (-1)])):jP s w e w':=⟨hb,.inr ⟨f,hf,he⟩⟩
def ND (s:ByteArray)(neg:Bool)(m x:ByteArray)(dn:Bool)(bh:Int)(e:Nat):Prop:=e≤s.size∧(e≠s.size→gp s=none)∧(e=s.size→∃f,gp s=some f∧f.neg=neg∧f.m=m∧kC f=x∧f.down=dn∧f.behind=bh∧Ag f=⟨#[]⟩∧f.slash=0)
theorem Z8 {s:ByteArray}{neg:Bool}{m:ByteArray}{bh j:Nat}(hp:gp s=nS s neg m bh j)(hj:j≤s.size)(hh:hits ⟨#[101,69]⟩ s j=false):ND s neg m ⟨#[]⟩ false (bh:Int) j:=by
 have he:nS s neg m bh j=if j≠s.size then none else some ⟨neg,m,(bh:Int),⟨#[]⟩,false,⟨#[]⟩,false,0⟩:=by
  unfold nS;rw[if_neg (by rw[hh];decide)]
 rw[he]at hp;refine⟨hj,fun h=>by rw[hp,if_pos h],fun h=>⟨_,by rw[hp,if_neg (fun k=>k h)],rfl,rfl,rfl,rfl,rfl,rfl,rfl⟩⟩
theorem Ql {s:ByteArray}{neg:Bool}{m:ByteArray}{bh j jj:Nat}{dn:Bool}(hp:gp s=nS s neg m bh j)(hh:hits ⟨#[101,69]⟩ s j=true)(hj:jj=if hits ⟨#[43,45]⟩ s (j+1)=true then j+2 else j+1)(hd:dn=(hits ⟨#[43,45]⟩ s (j+1)&&decide (bt s ((j+1:Nat):Int)=45))):
  gp s=if eG s jj=jj∨eG s jj≠s.size then none else some ⟨neg,m,(bh:Int),s.extract jj (eG s jj),dn,⟨#[]⟩,false,0⟩:=by
 rw[hp];unfold nS;rw[if_pos hh];simp only[←hd,←hj]
theorem Xy {s:ByteArray}{neg:Bool}{m:ByteArray}{bh jj:Nat}{dn:Bool}(hp:gp s=if eG s jj=jj∨eG s jj≠s.size then none else some ⟨neg,m,(bh:Int),s.extract jj (eG s jj),dn,⟨#[]⟩,false,0⟩)(hjs:jj≤s.size)(hr:eG s jj≠jj):ND s neg m (eP (s.extract jj (eG s jj))) dn (bh:Int) (eG s jj):=by
 have hle:=lD s jj hjs;have hge:=yX s jj;refine⟨hle,fun h=>by rw[hp,if_pos (.inr h)],fun h=>⟨_,by rw[hp,if_neg (by rintro(k|k);exact hr k;exact k h)],rfl,rfl,?_,rfl,rfl,rfl,rfl⟩⟩;unfold kC;rw[if_neg (by show¬(s.extract jj (eG s jj)).size=0;rw[ByteArray.size_extract];omega)]
theorem Ku {s:ByteArray}{neg:Bool}{m:ByteArray}{bh j p:Nat}(hp:gp s=nS s neg m bh j)(hh:hits ⟨#[101,69]⟩ s j=true)(hj:j+1=p)(hn:hits ⟨#[43,45]⟩ s p=false):gp s=if eG s p=p∨eG s p≠s.size then none else some ⟨neg,m,(bh:Int),s.extract p (eG s p),false,⟨#[]⟩,false,0⟩:=by
 subst hj;exact Ql hp hh (by rw[hn];rfl) (by rw[hn];rfl)
theorem Vx {s:ByteArray}{neg:Bool}{m:ByteArray}{bh j p jj:Nat}{cc:Int}{dn:Bool}(hp:gp s=nS s neg m bh j)(hh:hits ⟨#[101,69]⟩ s j=true)(hj:j+1=p)(hn:hits ⟨#[43,45]⟩ s p=true)(hjj:p+1=jj)(hcc:bt s (p:Int)=cc)(hdn:(cc==45)=dn):gp s=if eG s jj=jj∨eG s jj≠s.size then none else some ⟨neg,m,(bh:Int),s.extract jj (eG s jj),dn,⟨#[]⟩,false,0⟩:=by
 subst hj hjj hcc hdn;exact Ql hp hh (by rw[hn];rfl) (by rw[hn];rfl)
def Vb:Code→Code
 | .seq _ b=>b
 |c=>c
noncomputable def XK:Nat→Code→Code
 |0,c=>c
 |k+1,c=>XK k (Vb c)
noncomputable def D5:Code:=XK 9 (Tryz.f150.body.getD .skip)
theorem VS {s:ByteArray}{w w9:World}{eb cb:Nat}{neg:Bool}{m':ByteArray}{j bh:Nat}{u3 u5 u7 u8 u9 u10 u11 u12 u13 u14 u15 u16 u17 u18 u19 u20 u21 u22 u23 u24 u25 u26 u27 u28 u29 u30 u31 u32 u33 u34 u35 u36 u37 u38 u39 u40 u41 u42 u43 u44 u45 u46 u47 u48 u49 u50 u51 u52 u53 u54 u55 u56 u57 u58 u59 u60 u61 u62 u63 u64 u65 u66 u67 u68 u69 u70 u71 u72 u73 u74 u75 u76 u77 u78 u79 u80 u81 u82 u83 u84 u85 u86 u87 u88 u89 u90 u91 u92 u93 u94 u95 u96 u97 u98 u99 amE amF amG amH amI u105 amJ amK amL amM amN amO amP amQ amR amS amT amU amV u119 amW amX amY amZ u124 an0 an1 u127 an2 an3 an4 u131 an5 an6 an7 an8 an9 ana u138 u139 anb anc ane anf ang anh ani anj ank anl anm ann u152 ano u154 anp anq anr ant anu anv anw u162 anx u164:Value}(HS:Aside0 (s.size≤65536))(yf:Aside0 (w.heap.size=eb))(wG:Aside0 (eb≠cb∧w.heap.size≤cb))(HC:Aside0 (FB w eb cb w9 neg m' ⟨#[]⟩ false (bh:Int) ⟨#[]⟩ 0∧gp s=nS s neg m' bh j∧j≤s.size∧0<m'.size)):
  Code.wp Tryz.prog D5 (bodyPost Tryz.prog Tryz.f150 fun e w'=>jP s w e w') {tmps:= #[.string s,undef,.pointer (some ⟨eb,0,none⟩),u3,.pointer (some ⟨cb,0,none⟩),u5,.int .i64 (j:Int),u7,u8,u9,u10,u11,u12,u13,u14,u15,u16,u17,u18,u19,u20,u21,u22,u23,u24,u25,u26,u27,u28,u29,u30,u31,u32,u33,u34,u35,u36,u37,u38,u39,u40,u41,u42,u43,u44,u45,u46,u47,u48,u49,u50,u51,u52,u53,u54,u55,u56,u57,u58,u59,u60,u61,u62,u63,u64,u65,u66,u67,u68,u69,u70,u71,u72,u73,u74,u75,u76,u77,u78,u79,u80,u81,u82,u83,u84,u85,u86,u87,u88,u89,u90,u91,u92,u93,u94,u95,u96,u97,u98,u99,amE,amF,amG,amH,amI,u105,amJ,amK,amL,amM,amN,amO,amP,amQ,amR,amS,amT,amU,amV,u119,amW,amX,amY,amZ,u124,an0,an1,u127,an2,an3,an4,u131,an5,an6,an7,an8,an9,ana,u138,u139,anb,anc,ane,anf,ang,anh,ani,anj,ank,anl,anm,ann,u152,ano,u154,anp,anq,anr,ant,anu,anv,anw,u162,anx,u164],defers:=[]} w9:=by
 conv=>arg 2;dsimp only[D5,XK,Vb,Tryz.f150,Option.getD]
 conv=>arg 4;zeta
 go_upto_region 26 with(fail);go_cut [114] (fun v wc=>v= .bool (hits ⟨#[101,69]⟩ s j)∧w9=wc)
 case first=>
  by_cases hlt:j<s.size
  ·have d1:=decide_eq_true hlt;have d2:=decide_eq_true (show(j:Int)<(s.size:Int)by omega);have hx:∀h:j<s.size,((s[j]'h).toNat:Int)=bt s (j:Int):=fun h=>dQ s (j:Int) h
   have q0:=eq_true hlt;obtain⟨cc,hcc⟩:∃cc,bt s (j:Int)=cc:=⟨_,rfl⟩;rw[hcc]at hx;obtain⟨bb,hbb⟩:∃bb,(cc==101)=bb:=⟨_,rfl⟩;obtain⟨b2,hb2⟩:∃bb,(cc==69)=bb:=⟨_,rfl⟩;have HH:=zM (show hits ⟨#[101,69]⟩ s j=(bb||b2)by rw[yK,decide_eq_true hlt,Bool.true_and,hcc,←hbb,←hb2];rfl);clear hlt hcc;cases bb with
   |true=>
    go_wp2_with fail;go_meet
    case rel=>exact⟨by rw[HH.out];rfl,rfl⟩
   |false=>
    go_wp2_with fail;go_meet
    case rel=>exact⟨by rw[HH.out];rfl,rfl⟩
  ·have d1:=decide_eq_false hlt;have d2:=decide_eq_false (show¬(j:Int)<(s.size:Int)by omega);have HH:=zM (show hits ⟨#[101,69]⟩ s j=false by rw[yK,d1,Bool.false_and]);clear hlt;go_wp2_with fail;go_meet
   case rel=>exact⟨by rw[HH.out],rfl⟩
 case rest=>
  obtain⟨rfl,rfl⟩:=hcut;obtain⟨ex,hex⟩:∃ex,hits ⟨#[101,69]⟩ s j=ex:=⟨_,rfl⟩;rw[hex];have HEX:=zM hex;clear hex;go_upto_if 114 with(fail);go_cut [6] (fun v6 wc=>∃(e:Nat) (x:ByteArray) (dn:Bool),v6= .int .i64 (e:Int)∧Aside0 (FB w eb cb wc neg m' x dn (bh:Int) ⟨#[]⟩ 0∧ND s neg m' x dn (bh:Int) e))
  case first=>
   cases ex with
   |false=>
    go_wp2_with fail;go_meet
    case rel=>exact⟨j,⟨#[]⟩,false,rfl,⟨HC.out.1,Z8 HC.out.2.1 HC.out.2.2.1 HEX.out⟩⟩
   |true=>
    have hlt:=nK HEX.out;have hw1:wrap64 ((j:Int)+1)=((j+1:Nat):Int):=by rw[fD (by omega) (by have:=HS.out;omega)];rfl
    have EX:IntKind.i64.wrap ((j:Int)+1)=((j+1:Nat):Int):=by rw[dL];exact hw1
    obtain⟨p,hp⟩:∃p,j+1=p:=⟨_,rfl⟩;rw[hp]at hw1 EX;have HP:=zM (zA hp (show p≤s.size by omega));clear hlt hp;go_upto_region 28 with(fail);clear hw1 EX;go_cut [132] (fun v wc=>v= .bool (hits ⟨#[43,45]⟩ s p)∧w9=wc)
    case first=>
     by_cases hlt:p<s.size
     ·have d1:=decide_eq_true hlt;have d2:=decide_eq_true (show(p:Int)<(s.size:Int)by omega);have hx:∀h:p<s.size,((s[p]'h).toNat:Int)=bt s (p:Int):=fun h=>dQ s (p:Int) h
      have q0:=eq_true hlt;obtain⟨cc,hcc⟩:∃cc,bt s (p:Int)=cc:=⟨_,rfl⟩;rw[hcc]at hx;obtain⟨bb,hbb⟩:∃bb,(cc==43)=bb:=⟨_,rfl⟩;obtain⟨b2,hb2⟩:∃bb,(cc==45)=bb:=⟨_,rfl⟩;have HH:=zM (show hits ⟨#[43,45]⟩ s p=(bb||b2)by rw[yK,decide_eq_true hlt,Bool.true_and,hcc,←hbb,←hb2];rfl);clear hlt hcc;cases bb with
      |true=>
       go_wp2_with fail;go_meet
       case rel=>exact⟨by rw[HH.out];rfl,rfl⟩
      |false=>
       go_wp2_with fail;go_meet
       case rel=>exact⟨by rw[HH.out];rfl,rfl⟩
     ·have d1:=decide_eq_false hlt;have d2:=decide_eq_false (show¬(p:Int)<(s.size:Int)by omega);have HH:=zM (show hits ⟨#[43,45]⟩ s p=false by rw[yK,d1,Bool.false_and]);clear hlt;go_wp2_with fail;go_meet
      case rel=>exact⟨by rw[HH.out],rfl⟩
    case rest=>
     obtain⟨rfl,rfl⟩:=hcut;obtain⟨sn,hsn⟩:∃sn,hits ⟨#[43,45]⟩ s p=sn:=⟨_,rfl⟩;rw[hsn];have HSN:=zM hsn;clear hsn;go_upto_if 132 with(fail);go_cut [5] (fun v5 wc=>∃(jj:Nat) (dn:Bool),v5= .int .i64 (jj:Int)∧Aside0 (FB w eb cb wc neg m' ⟨#[]⟩ dn (bh:Int) ⟨#[]⟩ 0∧jj≤s.size∧gp s=if eG s jj=jj∨eG s jj≠s.size then none else some ⟨neg,m',(bh:Int),s.extract jj (eG s jj),dn,⟨#[]⟩,false,0⟩))
     case first=>
      cases sn with
      |true=>
       have hlt:=nK HSN.out;have hx:∀h:p<s.size,((s[p]'h).toNat:Int)=bt s (p:Int):=fun h=>dQ s (p:Int) h
       have q0:=eq_true hlt;obtain⟨cc,hcc⟩:∃cc,bt s (p:Int)=cc:=⟨_,rfl⟩;rw[hcc]at hx;obtain⟨dn,hdn⟩:∃dn,(cc==45)=dn:=⟨_,rfl⟩;have hw1:wrap64 ((p:Int)+1)=((p+1:Nat):Int):=by rw[fD (by omega) (by have:=HS.out;omega)];rfl
       have EX:IntKind.i64.wrap ((p:Int)+1)=((p+1:Nat):Int):=by rw[dL];exact hw1
       obtain⟨jj,hjj⟩:∃jj,p+1=jj:=⟨_,rfl⟩;rw[hjj]at hw1 EX;have HEY:=zM (Vx HC.out.2.1 HEX.out HP.out.1 HSN.out hjj hcc hdn);have HJJ:=zM (show jj≤s.size by omega);clear hlt hcc hjj;obtain⟨BV,zL,zN,BX,BZ,Cb,Cc⟩:=seven (HC.out.1.c);obtain⟨oh,oq,ou,oz,oC,oD,oG⟩:=iE (HC.out.1.c);obtain⟨w4,hw4⟩:∃w4,w9.setCell ⟨cb,3,none⟩ (.bool dn)=w4:=⟨_,rfl⟩;have HB4:=zM (show FB w eb cb w4 neg m' ⟨#[]⟩ dn (bh:Int) ⟨#[]⟩ 0 by rw[←hw4];exact HC.out.1.set wG.out.1 wG.out.2 3 _ rfl);go_wp2_with fail;go_meet
       case rel=>exact⟨jj,dn,rfl,⟨HB4.out,HJJ.out,HEY.out⟩⟩
      |false=>
       have HEY:=zM (Ku HC.out.2.1 HEX.out HP.out.1 HSN.out);go_wp2_with fail;go_meet
       case rel=>exact⟨p,false,rfl,⟨HC.out.1,HP.out.2,HEY.out⟩⟩
     case rest=>
      obtain⟨jj,dn,rfl,HD⟩:=hcut;go_wp2_with fail;refine(yY s jj _ (by have:=HS.out;omega) HD.out.2.1).mono ?_;rintro e w3 ⟨rfl,hb⟩;have hL:=fun h=>Xy HD.out.2.2 HD.out.2.1 h
      obtain⟨e3,he3⟩:∃e3,eG s jj=e3:=⟨_,rfl⟩;have HFQ:=HD.out.2.2;rw[he3]at hL HFQ⊢;have HB3:=zM (HD.out.1.below hb);have HE3:=zM (zA (show jj≤e3 by have:=yX s jj;omega) (show e3≤s.size by rw[←he3];exact lD s jj HD.out.2.1));clear hb he3
      by_cases h2:e3=jj
      ·have t1:((e3:Int)==(jj:Int))=true:=beq_iff_eq.mpr (by omega);have t2:(e3==jj)=true:=beq_iff_eq.mpr h2;have Ug:=zM (HFQ.trans (if_pos (.inl h2)));clear h2 hL HFQ;obtain⟨vk,vw,vz,vC,vF,vG,vH⟩:=seven (HB3.out.e);obtain⟨pq,pz,pG,pI,pJ,pK,pM⟩:=iE (HB3.out.e);obtain⟨BV,zL,zN,BX,BZ,Cb,Cc⟩:=seven (HB3.out.c);obtain⟨oh,oq,ou,oz,oC,oD,oG⟩:=iE (HB3.out.c);obtain⟨wS,mM⟩:∃wS,(((((((w3.setCell ⟨eb,0,none⟩ (.bool neg)).setCell ⟨eb,1,none⟩ (.string m')).setCell ⟨eb,2,none⟩ (.string ⟨#[]⟩)).setCell ⟨eb,3,none⟩ (.bool dn)).setCell ⟨eb,4,none⟩ (.int .i64 (bh:Int))).setCell ⟨eb,5,none⟩ (.string ⟨#[]⟩)).setCell ⟨eb,6,none⟩ (.int .i64 0))=wS:=⟨_,rfl⟩;have nU:=zM (zA (show wS.heap[eb]?=some (.cells #[.bool neg,.string m',.string ⟨#[]⟩,.bool dn,.int .i64 (bh:Int),.string ⟨#[]⟩,.int .i64 0] 226 (0,0))by rw[←mM];exact LK (HB3.out.e) _ _ _ _ _ _ _) (show Below w.heap.size w wS by rw[←mM];exact uo (HB3.out.bel) (Nat.le_of_eq yf.out) _ _ _ _ _ _ _));go_wp2_with fail;refine bodyPost_ret (dw rfl _ _ eb 226 #[.bool neg,.string m',.string ⟨#[]⟩,.bool dn,.int .i64 (bh:Int),.string ⟨#[]⟩,.int .i64 0] (0,0) _ rfl (by exact nU.out.1) Tryz.underlying226 rfl (by kernel_rfl)) rfl ?_;exact jP.no nU.out.2 Ug.out jj rfl
      ·have t1:((e3:Int)==(jj:Int))=false:=beq_eq_false_iff_ne.mpr (by omega);have t2:(e3==jj)=false:=beq_eq_false_iff_ne.mpr h2;have HL:=zM (hL h2);have hsl:=vS s jj e3 HE3.out.1 HE3.out.2;obtain⟨q,hq⟩:∃q,s.extract jj e3=q:=⟨_,rfl⟩;have MZ:q.size≠0:=by rw[←hq,ByteArray.size_extract];have:=HE3.out.1;have:=HE3.out.2;omega
       rw[hq]at hsl HL;have TM:=zM MZ;clear hq MZ h2 hL HFQ;go_wp2_with fail;refine(rO q _).mono ?_;rw[if_neg TM.out];rintro e w4 ⟨rfl,hb⟩;have HB4:=zM (HB3.out.below hb);obtain⟨bq,hbq⟩:∃bq,eP q=bq:=⟨_,rfl⟩;rw[hbq]at HL⊢;clear hb hsl hbq t1 t2;obtain⟨BV,zL,zN,BX,BZ,Cb,Cc⟩:=seven (HB4.out.c);obtain⟨oh,oq,ou,oz,oC,oD,oG⟩:=iE (HB4.out.c);obtain⟨w5,hw5⟩:∃w5,w4.setCell ⟨cb,2,none⟩ (.string bq)=w5:=⟨_,rfl⟩;have uf:=zM (show FB w eb cb w5 neg m' bq dn (bh:Int) ⟨#[]⟩ 0 by rw[←hw5];exact HB4.out.set wG.out.1 wG.out.2 2 _ rfl);go_wp2_with fail;go_meet
       case rel=>exact⟨e3,bq,dn,rfl,⟨uf.out,HL.out⟩⟩
  case rest=>
   obtain⟨e3,x,dn,rfl,HL⟩:=hcut;obtain⟨wz,rfl⟩:∃wz,wz=wc:=⟨_,rfl⟩;obtain⟨BV,zL,zN,BX,BZ,Cb,Cc⟩:=seven (HL.out.1.c);obtain⟨oh,oq,ou,oz,oC,oD,oG⟩:=iE (HL.out.1.c);go_wp2_with fail;refine(rO m' _).mono ?_;rw[if_neg (by have:=HC.out.2.2.2;omega)];rintro e w6 ⟨rfl,hb⟩;clear BV zL zN BX BZ Cb Cc oh oq ou oz oC oD oG;have yu:=zM (HL.out.1.below hb);obtain⟨bm,hbm⟩:∃bm,eP m'=bm:=⟨_,rfl⟩;rw[hbm];have HBM:=zM hbm;clear hb hbm;obtain⟨BV,zL,zN,BX,BZ,Cb,Cc⟩:=seven (yu.out.c);obtain⟨oh,oq,ou,oz,oC,oD,oG⟩:=iE (yu.out.c);obtain⟨w7,hw7⟩:∃w7,w6.setCell ⟨cb,1,none⟩ (.string bm)=w7:=⟨_,rfl⟩;have Hu:=zM (show FB w eb cb w7 neg bm x dn (bh:Int) ⟨#[]⟩ 0 by rw[←hw7];exact yu.out.set wG.out.1 wG.out.2 1 _ rfl);go_upto_region 36 with(fail);clear BV zL zN BX BZ Cb Cc oh oq ou oz oC oD oG;clear hw7
   by_cases h3:e3<s.size
   ·have t3:decide ((e3:Int)<(s.size:Int))=true:=decide_eq_true (by omega);have t4:=zT h3;have Ug:=zM (HL.out.2.2.1 (by omega));clear h3;obtain⟨vk,vw,vz,vC,vF,vG,vH⟩:=seven (Hu.out.e);obtain⟨pq,pz,pG,pI,pJ,pK,pM⟩:=iE (Hu.out.e);obtain⟨BV,zL,zN,BX,BZ,Cb,Cc⟩:=seven (Hu.out.c);obtain⟨oh,oq,ou,oz,oC,oD,oG⟩:=iE (Hu.out.c);obtain⟨wS,mM⟩:∃wS,(((((((w7.setCell ⟨eb,0,none⟩ (.bool neg)).setCell ⟨eb,1,none⟩ (.string bm)).setCell ⟨eb,2,none⟩ (.string x)).setCell ⟨eb,3,none⟩ (.bool dn)).setCell ⟨eb,4,none⟩ (.int .i64 (bh:Int))).setCell ⟨eb,5,none⟩ (.string ⟨#[]⟩)).setCell ⟨eb,6,none⟩ (.int .i64 0))=wS:=⟨_,rfl⟩;have nU:=zM (zA (show wS.heap[eb]?=some (.cells #[.bool neg,.string bm,.string x,.bool dn,.int .i64 (bh:Int),.string ⟨#[]⟩,.int .i64 0] 226 (0,0))by rw[←mM];exact LK (Hu.out.e) _ _ _ _ _ _ _) (show Below w.heap.size w wS by rw[←mM];exact uo (Hu.out.bel) (Nat.le_of_eq yf.out) _ _ _ _ _ _ _));go_wp2_with fail;refine bodyPost_ret (dw rfl _ _ eb 226 #[.bool neg,.string bm,.string x,.bool dn,.int .i64 (bh:Int),.string ⟨#[]⟩,.int .i64 0] (0,0) _ rfl (by exact nU.out.1) Tryz.underlying226 rfl (by kernel_rfl)) rfl ?_;exact jP.no nU.out.2 Ug.out e3 rfl
   ·have t3:decide ((e3:Int)<(s.size:Int))=false:=decide_eq_false (by omega);have t4:=zF h3;obtain⟨f,hf,f1,f2,f3,f4,f5,f6,f7⟩:=HL.out.2.2.2 (by have:=HL.out.2.1;omega);have ER:=zM (zA hf (zA f1 (zA f2 (zA f3 (zA f4 (zA f5 (zA f6 f7)))))));clear h3 hf f1 f2 f3 f4 f5 f6 f7;obtain⟨vk,vw,vz,vC,vF,vG,vH⟩:=seven (Hu.out.e);obtain⟨pq,pz,pG,pI,pJ,pK,pM⟩:=iE (Hu.out.e);obtain⟨BV,zL,zN,BX,BZ,Cb,Cc⟩:=seven (Hu.out.c);obtain⟨oh,oq,ou,oz,oC,oD,oG⟩:=iE (Hu.out.c);obtain⟨wS,mM⟩:∃wS,(((((((w7.setCell ⟨eb,0,none⟩ (.bool neg)).setCell ⟨eb,1,none⟩ (.string bm)).setCell ⟨eb,2,none⟩ (.string x)).setCell ⟨eb,3,none⟩ (.bool dn)).setCell ⟨eb,4,none⟩ (.int .i64 (bh:Int))).setCell ⟨eb,5,none⟩ (.string ⟨#[]⟩)).setCell ⟨eb,6,none⟩ (.int .i64 0))=wS:=⟨_,rfl⟩;have nU:=zM (zA (show wS.heap[eb]?=some (.cells #[.bool neg,.string bm,.string x,.bool dn,.int .i64 (bh:Int),.string ⟨#[]⟩,.int .i64 0] 226 (0,0))by rw[←mM];exact LK (Hu.out.e) _ _ _ _ _ _ _) (show Below w.heap.size w wS by rw[←mM];exact uo (Hu.out.bel) (Nat.le_of_eq yf.out) _ _ _ _ _ _ _));go_wp2_with fail;refine bodyPost_ret (dw rfl _ _ eb 226 #[.bool neg,.string bm,.string x,.bool dn,.int .i64 (bh:Int),.string ⟨#[]⟩,.int .i64 0] (0,0) _ rfl (by exact nU.out.1) Tryz.underlying226 rfl (by kernel_rfl)) rfl ?_;exact jP.yes nU.out.2 f ER.out.1 (by rw[ER.out.2.1,ER.out.2.2.1,ER.out.2.2.2.1,ER.out.2.2.2.2.1,ER.out.2.2.2.2.2.1,ER.out.2.2.2.2.2.2.1,ER.out.2.2.2.2.2.2.2,HBM.out];rfl)
theorem LZ (s:ByteArray)(w:World)(hs:s.size≤65536):Calls Tryz.prog 150 #[.string s] w fun e w'=>jP s w e w':=by
 obtain⟨eb,heb⟩:∃eb,w.heap.size=eb:=⟨_,rfl⟩;obtain⟨w0,hw0⟩:∃w0,w.alloc (.cells #[.bool false,.string ⟨#[]⟩,.string ⟨#[]⟩,.bool false,.int .i64 0,.string ⟨#[]⟩,.int .i64 0] 226)=w0:=⟨_,rfl⟩;obtain⟨cb,hcb⟩:∃cb,w0.heap.size=cb:=⟨_,rfl⟩;obtain⟨wA,hwA⟩:∃wA,w0.alloc (.cells #[.bool false,.string ⟨#[]⟩,.string ⟨#[]⟩,.bool false,.int .i64 0,.string ⟨#[]⟩,.int .i64 0] 226)=wA:=⟨_,rfl⟩;have hB0:Below w.heap.size w w0:=by rw[←hw0];exact ag (Below.refl _ _) _
 have hE0:w0.heap[eb]?=some (.cells #[.bool false,.string ⟨#[]⟩,.string ⟨#[]⟩,.bool false,.int .i64 0,.string ⟨#[]⟩,.int .i64 0] 226 (0,0)):=by rw[←hw0,←heb];exact bZ w _
 have Oi:Below w0.heap.size w0 wA:=by rw[←hwA];exact ag (Below.refl _ _) _
 have hCA:wA.heap[cb]?=some (.cells #[.bool false,.string ⟨#[]⟩,.string ⟨#[]⟩,.bool false,.int .i64 0,.string ⟨#[]⟩,.int .i64 0] 226 (0,0)):=by rw[←hwA,←hcb];exact bZ w0 _
 have yf:=zM heb;have wG:=zM (zA (show eb≠cb by have:=dV hE0;omega) (show w.heap.size≤cb by have:=hB0.size;omega));have HA:=zM (show FB w eb cb wA false ⟨#[]⟩ ⟨#[]⟩ false 0 ⟨#[]⟩ 0 from⟨ah hB0 hB0.size Oi,aT hE0 Oi,hCA⟩);have HS:=zM hs;clear hB0 hE0 Oi hCA hs;go_enter Tryz.func150,Tryz.ntmps150;go_upto_region 3 with(fail);clear heb hw0 hcb hwA;go_cut [13] (fun v13 wc=>v13= .bool (hits ⟨#[45]⟩ s 0)∧wA=wc)
 case first=>
  by_cases h0:s.size=0
  ·obtain⟨be,b1,b2,b3⟩:=Gf s;have hbe:be=true:=b3.2 h0;subst hbe;have HH:=zM (show hits ⟨#[45]⟩ s 0=false by rw[ry,decide_eq_false (by omega)];rfl);clear h0 b3;go_wp2_with fail;go_meet
   case rel=>exact⟨by rw[HH.out],rfl⟩
  ·obtain⟨be,b1,b2,b3⟩:=Gf s;have hbe:be=false:=by cases be with|false=>rfl|true=>exact absurd (b3.1 rfl) h0
   subst hbe;have hx:∀h:0<s.size,((s[0]'h).toNat:Int)=bt s 0:=fun h=>dQ s 0 h
   obtain⟨cc,hcc⟩:∃cc,bt s 0=cc:=⟨_,rfl⟩;rw[hcc]at hx;obtain⟨bb,hbb⟩:∃bb,(cc==45)=bb:=⟨_,rfl⟩;have HH:=zM (show hits ⟨#[45]⟩ s 0=bb by rw[ry,decide_eq_true (by omega),Bool.true_and];show(bt s 0==45)=bb;rw[hcc];exact hbb);have q0:=eq_true (show 0<s.size by omega);have qi:=eq_true (show(0:Int)<(s.size:Int)by omega);clear h0 b3 hcc;go_wp2_with fail;go_meet
   case rel=>exact⟨by rw[HH.out],rfl⟩
 case rest=>
  obtain⟨rfl,rfl⟩:=hcut;obtain⟨neg,hneg⟩:∃neg,hits ⟨#[45]⟩ s 0=neg:=⟨_,rfl⟩;rw[hneg];have HNG:=zM hneg;clear hneg;go_upto_if 13 with(fail);go_cut [5] (fun v5 wc=>v5= .int .i64 ((if neg=true then 1 else 0:Nat):Int)∧Aside0 (FB w eb cb wc neg ⟨#[]⟩ ⟨#[]⟩ false 0 ⟨#[]⟩ 0))
  case first=>
   cases neg with
   |true=>
    obtain⟨BV,zL,zN,BX,BZ,Cb,Cc⟩:=seven (HA.out.c);obtain⟨oh,oq,ou,oz,oC,oD,oG⟩:=iE (HA.out.c);have HF:=zM (show FB w eb cb (wA.setCell ⟨cb,0,none⟩ (.bool true)) true ⟨#[]⟩ ⟨#[]⟩ false 0 ⟨#[]⟩ 0 from HA.out.set wG.out.1 wG.out.2 0 _ rfl);go_wp2_with fail;go_meet
    case rel=>exact⟨rfl,HF⟩
   |false=>
    go_wp2_with fail;go_meet
    case rel=>exact⟨rfl,HA⟩
  case rest=>
   obtain⟨rfl,HB⟩:=hcut;obtain⟨i,hi⟩:∃i:Nat,(if neg=true then 1 else 0)=i:=⟨_,rfl⟩;rw[hi]
   have hisz:i≤s.size:=by
    rw[←hi];split
    ·next h=>have:=nK (HNG.out.trans h);omega
    ·omega
   have HI:=zM (zA hisz hi);clear hi hisz;go_wp2_with fail;refine(yY s i _ (by have:=HS.out;omega) HI.out.1).mono ?_;rintro e w1 ⟨rfl,hb⟩;obtain⟨e1,he1⟩:∃e1,eG s i=e1:=⟨_,rfl⟩;rw[he1];have HB1:=zM (HB.out.below hb);have HE1:=zM (zA he1 (zA (show i≤e1 by have:=yX s i;omega) (show e1≤s.size by rw[←he1];exact lD s i HI.out.1)));clear hb he1
   by_cases h1:e1=i
   ·have t1:((e1:Int)==(i:Int))=true:=beq_iff_eq.mpr (by omega);have t2:(e1==i)=true:=beq_iff_eq.mpr h1;have Ug:=zM (DZ s neg i e1 HNG.out.symm (by rw[HNG.out];exact HI.out.2.symm) HE1.out.1 h1);clear h1;obtain⟨vk,vw,vz,vC,vF,vG,vH⟩:=seven (HB1.out.e);obtain⟨pq,pz,pG,pI,pJ,pK,pM⟩:=iE (HB1.out.e);obtain⟨BV,zL,zN,BX,BZ,Cb,Cc⟩:=seven (HB1.out.c);obtain⟨oh,oq,ou,oz,oC,oD,oG⟩:=iE (HB1.out.c);obtain⟨wS,mM⟩:∃wS,(((((((w1.setCell ⟨eb,0,none⟩ (.bool neg)).setCell ⟨eb,1,none⟩ (.string ⟨#[]⟩)).setCell ⟨eb,2,none⟩ (.string ⟨#[]⟩)).setCell ⟨eb,3,none⟩ (.bool false)).setCell ⟨eb,4,none⟩ (.int .i64 0)).setCell ⟨eb,5,none⟩ (.string ⟨#[]⟩)).setCell ⟨eb,6,none⟩ (.int .i64 0))=wS:=⟨_,rfl⟩;have nU:=zM (zA (show wS.heap[eb]?=some (.cells #[.bool neg,.string ⟨#[]⟩,.string ⟨#[]⟩,.bool false,.int .i64 0,.string ⟨#[]⟩,.int .i64 0] 226 (0,0))by rw[←mM];exact LK (HB1.out.e) _ _ _ _ _ _ _) (show Below w.heap.size w wS by rw[←mM];exact uo (HB1.out.bel) (Nat.le_of_eq yf.out) _ _ _ _ _ _ _));go_wp2_with fail;refine bodyPost_ret (dw rfl _ _ eb 226 #[.bool neg,.string ⟨#[]⟩,.string ⟨#[]⟩,.bool false,.int .i64 0,.string ⟨#[]⟩,.int .i64 0] (0,0) _ rfl (by exact nU.out.1) Tryz.underlying226 rfl (by kernel_rfl)) rfl ?_;exact jP.no nU.out.2 Ug.out i rfl
   ·have t1:((e1:Int)==(i:Int))=false:=beq_eq_false_iff_ne.mpr (by omega);have t2:(e1==i)=false:=beq_eq_false_iff_ne.mpr h1;have hsl:=vS s i e1 HE1.out.2.1 HE1.out.2.2;obtain⟨m,hm⟩:∃m,s.extract i e1=m:=⟨_,rfl⟩;rw[hm]at hsl;have hms:0<m.size∧m.size≤65536:=by rw[←hm,ByteArray.size_extract];have:=HE1.out.2.1;have:=HE1.out.2.2;have:=HS.out;omega
    have HM:=zM (zA hm (zA hms h1));clear hm hms h1;obtain⟨BV,zL,zN,BX,BZ,Cb,Cc⟩:=seven (HB1.out.c);obtain⟨oh,oq,ou,oz,oC,oD,oG⟩:=iE (HB1.out.c);obtain⟨w2,hw2⟩:∃w2,w1.setCell ⟨cb,1,none⟩ (.string m)=w2:=⟨_,rfl⟩;have HB2:=zM (show FB w eb cb w2 neg m ⟨#[]⟩ false 0 ⟨#[]⟩ 0 by rw[←hw2];exact HB1.out.set wG.out.1 wG.out.2 1 _ rfl);go_upto_region 10 with(fail);clear BV zL zN BX BZ Cb Cc oh oq ou oz oC oD oG;clear hw2 hsl t1 t2;go_cut [37] (fun v wc=>v= .bool (hits ⟨#[47]⟩ s e1)∧w2=wc)
    case first=>
     by_cases hlt:e1<s.size
     ·have d1:=decide_eq_true hlt;have d2:=decide_eq_true (show(e1:Int)<(s.size:Int)by omega);have hx:∀h:e1<s.size,((s[e1]'h).toNat:Int)=bt s (e1:Int):=fun h=>dQ s (e1:Int) h
      have q0:=eq_true hlt;obtain⟨cc,hcc⟩:∃cc,bt s (e1:Int)=cc:=⟨_,rfl⟩;rw[hcc]at hx;obtain⟨bb,hbb⟩:∃bb,(cc==47)=bb:=⟨_,rfl⟩;have HH:=zM (show hits ⟨#[47]⟩ s e1=bb by rw[ry,decide_eq_true hlt,Bool.true_and,hcc];exact hbb);clear hlt hcc;go_wp2_with fail;go_meet
      case rel=>exact⟨by rw[HH.out],rfl⟩
     ·have d1:=decide_eq_false hlt;have d2:=decide_eq_false (show¬(e1:Int)<(s.size:Int)by omega);have HH:=zM (show hits ⟨#[47]⟩ s e1=false by rw[ry,d1,Bool.false_and]);clear hlt;go_wp2_with fail;go_meet
      case rel=>exact⟨by rw[HH.out],rfl⟩
    case rest=>
     obtain⟨rfl,rfl⟩:=hcut;obtain⟨sl,hsl⟩:∃sl,hits ⟨#[47]⟩ s e1=sl:=⟨_,rfl⟩;rw[hsl];have HSL:=zM hsl;clear hsl;cases sl with
     |true=>
      have hlt:=nK HSL.out;have hw1:wrap64 ((e1:Int)+1)=((e1+1:Nat):Int):=by rw[fD (by omega) (by have:=HS.out;omega)];rfl
      have EX:IntKind.i64.wrap ((e1:Int)+1)=((e1+1:Nat):Int):=by rw[dL];exact hw1
      obtain⟨d0,hd0⟩:∃d0,e1+1=d0:=⟨_,rfl⟩;rw[hd0]at hw1 EX;have HD0:=zM (zA hd0 (show d0≤s.size by omega));clear hlt hd0;go_wp2_with fail;refine(yY s d0 _ (by have:=HS.out;omega) HD0.out.2).mono ?_;rintro e w3 ⟨rfl,hb⟩;obtain⟨e2,he2⟩:∃e2,eG s d0=e2:=⟨_,rfl⟩;rw[he2];have HB3:=zM (HB2.out.below hb);have HE2:=zM (zA he2 (zA (show d0≤e2 by have:=yX s d0;omega) (show e2≤s.size by rw[←he2];exact lD s d0 HD0.out.2)));clear hb he2 hw1 EX;have hsl:=vS s d0 e2 HE2.out.2.1 HE2.out.2.2;obtain⟨q,hq⟩:∃q,s.extract d0 e2=q:=⟨_,rfl⟩;rw[hq]at hsl;have HQ:=zM hq;clear hq;go_wp2_with fail;refine(rO q _).mono ?_;rintro e w4 ⟨rfl,hb⟩;obtain⟨dq,hdq⟩:∃dq,(if q.size=0 then q else eP q)=dq:=⟨_,rfl⟩;rw[hdq];have HDQ:=zM hdq;have HB4:=zM (HB3.out.below hb);clear hb hdq hsl;obtain⟨BV,zL,zN,BX,BZ,Cb,Cc⟩:=seven (HB4.out.c);obtain⟨oh,oq,ou,oz,oC,oD,oG⟩:=iE (HB4.out.c);obtain⟨w5,hw5⟩:∃w5,(w4.setCell ⟨cb,5,none⟩ (.string dq)).setCell ⟨cb,6,none⟩ (.int .i64 (d0:Int))=w5:=⟨_,rfl⟩;have uf:=zM (show FB w eb cb w5 neg m ⟨#[]⟩ false 0 dq (d0:Int)by rw[←hw5];exact(HB4.out.set (q1:=neg) (q2:=m) (q3:=⟨#[]⟩) (q4:=false) (q5:=0) (q6:=dq) (q7:=0) wG.out.1 wG.out.2 5 _ rfl).set wG.out.1 wG.out.2 6 _ rfl);go_upto_region 15 with(fail);clear BV zL zN BX BZ Cb Cc oh oq ou oz oC oD oG;clear hw5
      have HFP:=zM (show gp s=if e2=d0∨e2≠s.size then none else some ⟨neg,m,0,⟨#[]⟩,false,q,true,(d0:Int)⟩by
       unfold gp;simp only[HNG.out,HI.out.2]
       rw[HE1.out.1,if_neg HM.out.2.2,if_pos HSL.out,HM.out.1,HD0.out.1,HE2.out.1,HQ.out])
      by_cases h2:e2=d0
      ·have t1:((e2:Int)==(d0:Int))=true:=beq_iff_eq.mpr (by omega);have t2:(e2==d0)=true:=beq_iff_eq.mpr h2;have Ug:=zM (HFP.out.trans (if_pos (.inl h2)));clear h2;obtain⟨vk,vw,vz,vC,vF,vG,vH⟩:=seven (uf.out.e);obtain⟨pq,pz,pG,pI,pJ,pK,pM⟩:=iE (uf.out.e);obtain⟨BV,zL,zN,BX,BZ,Cb,Cc⟩:=seven (uf.out.c);obtain⟨oh,oq,ou,oz,oC,oD,oG⟩:=iE (uf.out.c);obtain⟨wS,mM⟩:∃wS,(((((((w5.setCell ⟨eb,0,none⟩ (.bool neg)).setCell ⟨eb,1,none⟩ (.string m)).setCell ⟨eb,2,none⟩ (.string ⟨#[]⟩)).setCell ⟨eb,3,none⟩ (.bool false)).setCell ⟨eb,4,none⟩ (.int .i64 0)).setCell ⟨eb,5,none⟩ (.string dq)).setCell ⟨eb,6,none⟩ (.int .i64 (d0:Int)))=wS:=⟨_,rfl⟩;have nU:=zM (zA (show wS.heap[eb]?=some (.cells #[.bool neg,.string m,.string ⟨#[]⟩,.bool false,.int .i64 0,.string dq,.int .i64 (d0:Int)] 226 (0,0))by rw[←mM];exact LK (uf.out.e) _ _ _ _ _ _ _) (show Below w.heap.size w wS by rw[←mM];exact uo (uf.out.bel) (Nat.le_of_eq yf.out) _ _ _ _ _ _ _));go_wp2_with fail;refine bodyPost_ret (dw rfl _ _ eb 226 #[.bool neg,.string m,.string ⟨#[]⟩,.bool false,.int .i64 0,.string dq,.int .i64 (d0:Int)] (0,0) _ rfl (by exact nU.out.1) Tryz.underlying226 rfl (by kernel_rfl)) rfl ?_;exact jP.no nU.out.2 Ug.out e2 rfl
      ·have t1:((e2:Int)==(d0:Int))=false:=beq_eq_false_iff_ne.mpr (by omega);have t2:(e2==d0)=false:=beq_eq_false_iff_ne.mpr h2;have HQ0:=zM (show eP q=dq by have h:=HDQ.out;rw[if_neg (by rw[←HQ.out,ByteArray.size_extract];have:=HE2.out.2.1;have:=HE2.out.2.2;omega)]at h;exact h)
       by_cases h3:e2<s.size
       ·have t3:decide ((e2:Int)<(s.size:Int))=true:=decide_eq_true (by omega);have t4:=zT h3;have Ug:=zM (HFP.out.trans (if_pos (.inr (by omega))));clear h2 h3;obtain⟨vk,vw,vz,vC,vF,vG,vH⟩:=seven (uf.out.e);obtain⟨pq,pz,pG,pI,pJ,pK,pM⟩:=iE (uf.out.e);obtain⟨BV,zL,zN,BX,BZ,Cb,Cc⟩:=seven (uf.out.c);obtain⟨oh,oq,ou,oz,oC,oD,oG⟩:=iE (uf.out.c);obtain⟨wS,mM⟩:∃wS,(((((((w5.setCell ⟨eb,0,none⟩ (.bool neg)).setCell ⟨eb,1,none⟩ (.string m)).setCell ⟨eb,2,none⟩ (.string ⟨#[]⟩)).setCell ⟨eb,3,none⟩ (.bool false)).setCell ⟨eb,4,none⟩ (.int .i64 0)).setCell ⟨eb,5,none⟩ (.string dq)).setCell ⟨eb,6,none⟩ (.int .i64 (d0:Int)))=wS:=⟨_,rfl⟩;have nU:=zM (zA (show wS.heap[eb]?=some (.cells #[.bool neg,.string m,.string ⟨#[]⟩,.bool false,.int .i64 0,.string dq,.int .i64 (d0:Int)] 226 (0,0))by rw[←mM];exact LK (uf.out.e) _ _ _ _ _ _ _) (show Below w.heap.size w wS by rw[←mM];exact uo (uf.out.bel) (Nat.le_of_eq yf.out) _ _ _ _ _ _ _));go_wp2_with fail;refine bodyPost_ret (dw rfl _ _ eb 226 #[.bool neg,.string m,.string ⟨#[]⟩,.bool false,.int .i64 0,.string dq,.int .i64 (d0:Int)] (0,0) _ rfl (by exact nU.out.1) Tryz.underlying226 rfl (by kernel_rfl)) rfl ?_;exact jP.no nU.out.2 Ug.out e2 rfl
       ·have t3:decide ((e2:Int)<(s.size:Int))=false:=decide_eq_false (by omega);have t4:=zF h3;have ER:=zM (HFP.out.trans (if_neg (by have:=HE2.out.2.2;omega)));clear h2 h3;obtain⟨BV,zL,zN,BX,BZ,Cb,Cc⟩:=seven (uf.out.c);obtain⟨oh,oq,ou,oz,oC,oD,oG⟩:=iE (uf.out.c);go_wp2_with fail;refine(rO m _).mono ?_;rw[if_neg (by have:=HM.out.2.1.1;omega)];rintro e w6 ⟨rfl,hb⟩;clear BV zL zN BX BZ Cb Cc oh oq ou oz oC oD oG;have yu:=zM (uf.out.below hb);obtain⟨bm,hbm⟩:∃bm,eP m=bm:=⟨_,rfl⟩;rw[hbm];have HBM:=zM hbm;clear hb hbm t1 t2 t3 t4;obtain⟨BV,zL,zN,BX,BZ,Cb,Cc⟩:=seven (yu.out.c);obtain⟨oh,oq,ou,oz,oC,oD,oG⟩:=iE (yu.out.c);obtain⟨w7,hw7⟩:∃w7,w6.setCell ⟨cb,1,none⟩ (.string bm)=w7:=⟨_,rfl⟩;have Hu:=zM (show FB w eb cb w7 neg bm ⟨#[]⟩ false 0 dq (d0:Int)by rw[←hw7];exact yu.out.set wG.out.1 wG.out.2 1 _ rfl);go_upto_region 18 with(fail);clear BV zL zN BX BZ Cb Cc oh oq ou oz oC oD oG;clear hw7;obtain⟨vk,vw,vz,vC,vF,vG,vH⟩:=seven (Hu.out.e);obtain⟨pq,pz,pG,pI,pJ,pK,pM⟩:=iE (Hu.out.e);obtain⟨BV,zL,zN,BX,BZ,Cb,Cc⟩:=seven (Hu.out.c);obtain⟨oh,oq,ou,oz,oC,oD,oG⟩:=iE (Hu.out.c);obtain⟨wS,mM⟩:∃wS,(((((((w7.setCell ⟨eb,0,none⟩ (.bool neg)).setCell ⟨eb,1,none⟩ (.string bm)).setCell ⟨eb,2,none⟩ (.string ⟨#[]⟩)).setCell ⟨eb,3,none⟩ (.bool false)).setCell ⟨eb,4,none⟩ (.int .i64 0)).setCell ⟨eb,5,none⟩ (.string dq)).setCell ⟨eb,6,none⟩ (.int .i64 (d0:Int)))=wS:=⟨_,rfl⟩;have nU:=zM (zA (show wS.heap[eb]?=some (.cells #[.bool neg,.string bm,.string ⟨#[]⟩,.bool false,.int .i64 0,.string dq,.int .i64 (d0:Int)] 226 (0,0))by rw[←mM];exact LK (Hu.out.e) _ _ _ _ _ _ _) (show Below w.heap.size w wS by rw[←mM];exact uo (Hu.out.bel) (Nat.le_of_eq yf.out) _ _ _ _ _ _ _));go_wp2_with fail;refine bodyPost_ret (dw rfl _ _ eb 226 #[.bool neg,.string bm,.string ⟨#[]⟩,.bool false,.int .i64 0,.string dq,.int .i64 (d0:Int)] (0,0) _ rfl (by exact nU.out.1) Tryz.underlying226 rfl (by kernel_rfl)) rfl ?_;exact jP.yes nU.out.2 _ ER.out (by rw[HBM.out,show kC (⟨neg,m,0,⟨#[]⟩,false,q,true,(d0:Int)⟩:Fm)=⟨#[]⟩from rfl,show Ag (⟨neg,m,0,⟨#[]⟩,false,q,true,(d0:Int)⟩:Fm)=dq from HQ0.out];rfl)
     |false=>
      go_upto_region 19 with(fail);go_cut [76] (fun v wc=>v= .bool (hits ⟨#[46]⟩ s e1)∧w2=wc)
      case first=>
       by_cases hlt:e1<s.size
       ·have d1:=decide_eq_true hlt;have d2:=decide_eq_true (show(e1:Int)<(s.size:Int)by omega);have hx:∀h:e1<s.size,((s[e1]'h).toNat:Int)=bt s (e1:Int):=fun h=>dQ s (e1:Int) h
        have q0:=eq_true hlt;obtain⟨cc,hcc⟩:∃cc,bt s (e1:Int)=cc:=⟨_,rfl⟩;rw[hcc]at hx;obtain⟨bb,hbb⟩:∃bb,(cc==46)=bb:=⟨_,rfl⟩;have HH:=zM (show hits ⟨#[46]⟩ s e1=bb by rw[ry,decide_eq_true hlt,Bool.true_and,hcc];exact hbb);clear hlt hcc;go_wp2_with fail;go_meet
        case rel=>exact⟨by rw[HH.out],rfl⟩
       ·have d1:=decide_eq_false hlt;have d2:=decide_eq_false (show¬(e1:Int)<(s.size:Int)by omega);have HH:=zM (show hits ⟨#[46]⟩ s e1=false by rw[ry,d1,Bool.false_and]);clear hlt;go_wp2_with fail;go_meet
        case rel=>exact⟨by rw[HH.out],rfl⟩
      case rest=>
       obtain⟨rfl,rfl⟩:=hcut;obtain⟨dt,hdt⟩:∃dt,hits ⟨#[46]⟩ s e1=dt:=⟨_,rfl⟩;rw[hdt];have HDT:=zM hdt;clear hdt
       have HFP:=zM (show gp s=if hits ⟨#[46]⟩ s e1=true then(if eG s (e1+1)=e1+1 then none else nS s neg (m++s.extract (e1+1) (eG s (e1+1))) (eG s (e1+1)- (e1+1)) (eG s (e1+1)))else nS s neg m 0 e1 by
        unfold gp;simp only[HNG.out,HI.out.2]
        rw[HE1.out.1,if_neg HM.out.2.2,if_neg (by rw[HSL.out];decide),HM.out.1])
       go_upto_if 76 with(fail);go_cut [6] (fun v6 wc=>∃(j:Nat) (m':ByteArray) (bh:Nat),v6= .int .i64 (j:Int)∧Aside0 (FB w eb cb wc neg m' ⟨#[]⟩ false (bh:Int) ⟨#[]⟩ 0∧gp s=nS s neg m' bh j∧j≤s.size∧0<m'.size))
       case first=>
        cases dt with
        |true=>
         have hlt:=nK HDT.out;have hw1:wrap64 ((e1:Int)+1)=((e1+1:Nat):Int):=by rw[fD (by omega) (by have:=HS.out;omega)];rfl
         have EX:IntKind.i64.wrap ((e1:Int)+1)=((e1+1:Nat):Int):=by rw[dL];exact hw1
         obtain⟨d0,hd0⟩:∃d0,e1+1=d0:=⟨_,rfl⟩;rw[hd0]at hw1 EX;have HD0:=zM (zA hd0 (show d0≤s.size by omega));clear hlt hd0;go_wp2_with fail;refine(yY s d0 _ (by have:=HS.out;omega) HD0.out.2).mono ?_;rintro e w3 ⟨rfl,hb⟩;obtain⟨e2,he2⟩:∃e2,eG s d0=e2:=⟨_,rfl⟩;rw[he2];have HB3:=zM (HB2.out.below hb);have HE2:=zM (zA he2 (zA (show d0≤e2 by have:=yX s d0;omega) (show e2≤s.size by rw[←he2];exact lD s d0 HD0.out.2)));clear hb he2 hw1 EX
         by_cases h2:e2=d0
         ·have t1:((e2:Int)==(d0:Int))=true:=beq_iff_eq.mpr (by omega);have t2:(e2==d0)=true:=beq_iff_eq.mpr h2;have Ug:=zM (HFP.out.trans (by rw[if_pos HDT.out,HD0.out.1,HE2.out.1,if_pos h2]));clear h2;obtain⟨vk,vw,vz,vC,vF,vG,vH⟩:=seven (HB3.out.e);obtain⟨pq,pz,pG,pI,pJ,pK,pM⟩:=iE (HB3.out.e);obtain⟨BV,zL,zN,BX,BZ,Cb,Cc⟩:=seven (HB3.out.c);obtain⟨oh,oq,ou,oz,oC,oD,oG⟩:=iE (HB3.out.c);obtain⟨wS,mM⟩:∃wS,(((((((w3.setCell ⟨eb,0,none⟩ (.bool neg)).setCell ⟨eb,1,none⟩ (.string m)).setCell ⟨eb,2,none⟩ (.string ⟨#[]⟩)).setCell ⟨eb,3,none⟩ (.bool false)).setCell ⟨eb,4,none⟩ (.int .i64 0)).setCell ⟨eb,5,none⟩ (.string ⟨#[]⟩)).setCell ⟨eb,6,none⟩ (.int .i64 0))=wS:=⟨_,rfl⟩;have nU:=zM (zA (show wS.heap[eb]?=some (.cells #[.bool neg,.string m,.string ⟨#[]⟩,.bool false,.int .i64 0,.string ⟨#[]⟩,.int .i64 0] 226 (0,0))by rw[←mM];exact LK (HB3.out.e) _ _ _ _ _ _ _) (show Below w.heap.size w wS by rw[←mM];exact uo (HB3.out.bel) (Nat.le_of_eq yf.out) _ _ _ _ _ _ _));go_wp2_with fail;refine bodyPost_ret (dw rfl _ _ eb 226 #[.bool neg,.string m,.string ⟨#[]⟩,.bool false,.int .i64 0,.string ⟨#[]⟩,.int .i64 0] (0,0) _ rfl (by exact nU.out.1) Tryz.underlying226 rfl (by kernel_rfl)) rfl ?_;exact jP.no nU.out.2 Ug.out d0 rfl
         ·have t1:((e2:Int)==(d0:Int))=false:=beq_eq_false_iff_ne.mpr (by omega);have t2:(e2==d0)=false:=beq_eq_false_iff_ne.mpr h2;have hsl:=vS s d0 e2 HE2.out.2.1 HE2.out.2.2;obtain⟨x,hx⟩:∃x,s.extract d0 e2=x:=⟨_,rfl⟩;rw[hx]at hsl;have hxs:x.size≤65536:=by rw[←hx,ByteArray.size_extract];have:=HE2.out.2.2;have:=HS.out;omega
          have KO:¬9223372036854775807<m.size+x.size:=by have:=HM.out.2.1.2;omega
          have hsb:wrap64 ((e2:Int)- (d0:Int))=((e2- d0:Nat):Int):=by rw[fD (by have:=HE2.out.2.1;omega) (by have:=HE2.out.2.2;have:=HS.out;omega)];have:=HE2.out.2.1;omega
          have am5:IntKind.i64.wrap ((e2:Int)- (d0:Int))=((e2- d0:Nat):Int):=by rw[dL];exact hsb
          obtain⟨bh,hbh⟩:∃bh,e2- d0=bh:=⟨_,rfl⟩;rw[hbh]at hsb am5;have HX:=zM (show gp s=nS s neg (m++x) bh e2 from HFP.out.trans (by rw[if_pos HDT.out,HD0.out.1,HE2.out.1,if_neg h2,hx,hbh]));obtain⟨mx,hmx⟩:∃mx,m++x=mx:=⟨_,rfl⟩;have HMX:=zM (zA hmx (show 0<mx.size by rw[←hmx,ByteArray.size_append];have:=HM.out.2.1.1;omega));clear hx hxs hbh h2;obtain⟨BV,zL,zN,BX,BZ,Cb,Cc⟩:=seven (HB3.out.c);obtain⟨oh,oq,ou,oz,oC,oD,oG⟩:=iE (HB3.out.c);obtain⟨w4,hw4⟩:∃w4,w3.setCell ⟨cb,1,none⟩ (.string mx)=w4:=⟨_,rfl⟩;have HB4:=zM (show FB w eb cb w4 neg mx ⟨#[]⟩ false 0 ⟨#[]⟩ 0 by rw[←hw4];exact HB3.out.set wG.out.1 wG.out.2 1 _ rfl);go_upto_region 24 with(fail);go_still_tail 8,(by kernel_rfl)
          change wpList _ _ _ _ _ w3.drew
          go_upto_region 25 with(fail);clear BV zL zN BX BZ Cb Cc oh oq ou oz oC oD oG;clear hw4 KO hsl t1 t2 hmx;have uf:=zM (HB4.out.below (dB (Below.refl w4.heap.size w4)));obtain⟨BV,zL,zN,BX,BZ,Cb,Cc⟩:=seven (HB4.out.c);obtain⟨oh,oq,ou,oz,oC,oD,oG⟩:=iE (HB4.out.c);have yu:=zM (uf.out.set (q1:=neg) (q2:=mx) (q3:=⟨#[]⟩) (q4:=false) (q5:=(bh:Int)) (q6:=⟨#[]⟩) (q7:=0) wG.out.1 wG.out.2 4 (.int .i64 (bh:Int)) rfl);go_wp2_with fail;go_meet
          case rel=>exact⟨e2,mx,bh,rfl,⟨by first|exact yu.out|exact⟨dB (HB4.out.set (q1:=neg) (q2:=mx) (q3:=⟨#[]⟩) (q4:=false) (q5:=(bh:Int)) (q6:=⟨#[]⟩) (q7:=0) wG.out.1 wG.out.2 4 (.int .i64 (bh:Int)) rfl).bel,yu.out.e,yu.out.c⟩,by rw[HX.out,HMX.out.1],HE2.out.2.2,HMX.out.2⟩⟩
        |false=>
         go_wp2_with fail;go_meet
         case rel=>exact⟨e1,m,0,rfl,⟨HB2.out,HFP.out.trans (if_neg (by rw[HDT.out];decide)),HE1.out.2.2,HM.out.2.1.1⟩⟩
       case rest=>
        obtain⟨j,m',bh,rfl,HC⟩:=hcut;obtain⟨w9,rfl⟩:∃w9,w9=wc:=⟨_,rfl⟩;exact(show∀(a_:Act) (w_:World),Code.wp Tryz.prog D5 (bodyPost Tryz.prog Tryz.f150 fun e w'=>jP s w e w') a_ w_→_ from by assumption) _ _ (VS HS yf wG HC)
theorem Jp {W:World}{b t:Nat}{v0 v1:Value}(h:W.heap[b]?=some (.cells #[v0,v1] t (0,0))):W.cell? ⟨b,0,none⟩=some v0∧W.cell? ⟨b,1,none⟩=some v1:=⟨(aj h 0).trans rfl,(aj h 1).trans rfl⟩
theorem zi {W:World}{b t:Nat}{v0 v1 v2:Value}(h:W.heap[b]?=some (.cells #[v0,v1,v2] t (0,0))):W.cell? ⟨b,0,none⟩=some v0∧W.cell? ⟨b,1,none⟩=some v1∧W.cell? ⟨b,2,none⟩=some v2:=⟨(aj h 0).trans rfl,(aj h 1).trans rfl,(aj h 2).trans rfl⟩
def Y9 (neg:Bool)(n d a b:ByteArray)(c:Int):Prop:=(600<n.size∨600<d.size)∧a=⟨#[]⟩∧b=⟨#[]⟩∧c=7∨¬(600<n.size∨600<d.size)∧a=signed neg n∧b=d∧c=0
theorem yV (neg:Bool)(n d:ByteArray)(w:World)(hn:n.size≤1000000):
  Calls Tryz.prog 151 #[.agg #[.bool neg,.string n,.string d]] w fun e w'=>∃a b c,e= .returned (.tuple #[.agg #[.string a,.string b],.int .i64 c])∧Y9 neg n d a b c∧Below w.heap.size w w':=by
 obtain⟨k,hk⟩:=(Fh neg n d hn).rounds
 by_cases h:600<n.size∨600<d.size
 ·rw[if_pos h]at hk;exact(bH.calls k neg n d _ _ _ w hk).mono fun e w' ⟨h1,h2⟩=>⟨_,_,_,h1,.inl ⟨h,rfl,rfl,rfl⟩,h2⟩
 ·rw[if_neg h]at hk;exact(bH.calls k neg n d _ _ _ w hk).mono fun e w' ⟨h1,h2⟩=>⟨_,_,_,h1,.inr ⟨h,rfl,rfl,rfl⟩,h2⟩
theorem OG {s:ByteArray}{f:Fm}(h:Good s f):Num (bytesOf (kC f)):=by
 unfold kC;split
 ·exact num_nil
 ·exact(kV f.exp h.2.2.1).1.2.2
theorem F9 {s:ByteArray}{f:Fm}(h:Good s f):dv (kC f)=dv (eP f.exp)∧(kC f).size≤(eP f.exp).size∧((kC f).size≤4→(eP f.exp).size≤4):=by
 unfold kC;split
 ·next h0=>
  have e:f.exp=⟨#[]⟩:=by
   have h1:=bV f.exp;rw[h0]at h1;exact ByteArray.ext (Array.ext' (List.eq_nil_of_length_eq_zero h1))
  rw[e,show eP ⟨#[]⟩=⟨#[48]⟩from zG _ (by rw[ByteArray.toList_eq];rfl)];exact⟨rfl,Nat.zero_le _,fun _=>by decide⟩
 ·exact⟨rfl,Nat.le_refl _,fun h=>h⟩
theorem NW {s:ByteArray}(h:Canon s)(h2:dv s≤4096):s.size≤4:=by
 refine Classical.byContradiction fun hn=>?_
 have h1:=DL h (by omega);have h3:(10:Int)^4≤10^(s.size- 1):=sW (by omega);have h4:(10:Int)^4=10000:=by decide
 omega
theorem ae7 {s:ByteArray}{f:Fm}(h:Good s f)(h4:(kC f).size≤4)(hd:dv (kC f)≤4096):wF f ((if f.down=true then- dv (kC f)else dv (kC f))- f.behind):=by
 have hb:=(kV f.exp h.2.2.1).1;have hr:=F9 h;refine⟨⟨hb.1,by have:=hr.2.2 h4;omega,hb.2⟩,by rw[←hr.1];exact hd,by rw[hr.1]⟩
theorem ae6 {s:ByteArray}{f:Fm}(h:Good s f)(h4:4<(kC f).size∨4096<dv (kC f))(k:Int):¬wF f k:=by
 intro hk;have hb:=(kV f.exp h.2.2.1).1;have hr:=F9 h;have h5:=NW hb hk.2.1;have h6:=hk.2.1;rw[←hr.1]at h6;omega
theorem Lp {x y:Int}{n d:ByteArray}(h:Ib x y n d)(hx:0≤x)(hx2:x≤10^1200)(hy:0<y):n.size≤1000000:=by
 refine Classical.byContradiction fun hn=>?_
 have hg:=qy (a:=x) hy;have h0:=fP h.1;have h1:=DL h.1 (by omega);have h2:dv n*1≤dv n*ja x y:=Int.mul_le_mul_of_nonneg_left (by omega) h0;rw[h.2.2.1,Int.mul_one]at h2;have h3:(10:Int)^1201≤10^(n.size- 1):=sW (by omega);have h4:(10:Int)^1201=10^1200*10:=Int.pow_succ ..;have h5:(0:Int)<10^1200:=Int.pow_pos (by omega);omega
theorem Tj {m:ByteArray}{k:Nat}(hm:0≤dv m):decide (dv m*10^k≠0)=decide (dv m≠0):=by
 have hp:(0:Int)<10^k:=Int.pow_pos (by omega)
 by_cases h:dv m=0
 ·rw[h,Int.zero_mul]
 ·rw[decide_eq_true h,decide_eq_true];exact Int.ne_of_gt (Int.mul_pos (by omega) hp)
theorem Fg (s:ByteArray)(w:World):
  Calls Tryz.prog 110 #[.string s] w fun e w'=>∃n d er pos,e= .returned (.tuple #[.agg #[.string n,.string d],.int .i64 er,.int .i64 pos])∧qZ s n d er∧Below w.heap.size w w':=by
 have hb0:Below w.heap.size w (w.alloc (.cells #[.string ⟨#[]⟩,.string ⟨#[]⟩] 39)):=ag (Below.refl _ _) _;have H0:=zM (zA hb0 (bZ w (.cells #[.string ⟨#[]⟩,.string ⟨#[]⟩] 39)));clear hb0
 by_cases hbig:65536<s.size
 ·have q1:decide (65536<(s.size:Int))=true:=decide_eq_true (by omega);have q2:=zT hbig;have HQ:=zM hbig;clear hbig;go_enter Tryz.func110,Tryz.ntmps110;go_wp2_with fail;refine bodyPost_ret (eY rfl _ _ w.heap.size 39 #[.string ⟨#[]⟩,.string ⟨#[]⟩] (0,0) _ rfl (by first|exact H0.out.2|(have h:=aN (aN (H0.out.2) 0 (.string ⟨#[]⟩)) 1 (.string ⟨#[]⟩);first|exact h|simpa using h)) Tryz.underlying39 rfl (by kernel_rfl)) rfl ?_;exact⟨⟨#[]⟩,⟨#[]⟩,4,_,rfl,.inl ⟨HQ.out,rfl,rfl,rfl⟩,by first|exact H0.out.1|exact((H0.out.1).setCell (Nat.le_refl _) _).setCell (Nat.le_refl _) _⟩
 ·have q1:decide (65536<(s.size:Int))=false:=decide_eq_false (by omega);have q2:=zF hbig;have HQ:=zM (show s.size≤65536 by omega);clear hbig;go_enter Tryz.func110,Tryz.ntmps110;go_wp2_with fail;refine(LZ s _ HQ.out).mono ?_;rintro e w1 ⟨h2,⟨hf,r1,r2,r3,r4,r5,r6,r7,r8,h8,rfl⟩|⟨f,hf,rfl⟩⟩
  ·have hz:=aT (aT H0.out.2 h2) (ag (Below.refl w1.heap.size w1) (.cells #[.bool r1,.string r2,.string r3,.bool r4,.int .i64 r5,.string r6,.int .i64 r7] 226));have hb:=ah (ah H0.out.1 H0.out.1.size h2) (ah H0.out.1 H0.out.1.size h2).size (ag (Below.refl w1.heap.size w1) (.cells #[.bool r1,.string r2,.string r3,.bool r4,.int .i64 r5,.string r6,.int .i64 r7] 226));obtain⟨W2,hW2⟩:∃W2,w1.alloc (.cells #[.bool r1,.string r2,.string r3,.bool r4,.int .i64 r5,.string r6,.int .i64 r7] 226)=W2:=⟨_,rfl⟩;rw[hW2]at hz hb;have hz0:W2.cell? ⟨w.heap.size,0,none⟩=some (.string ⟨#[]⟩):=(aj hz 0).trans rfl;have hz1:W2.cell? ⟨w.heap.size,1,none⟩=some (.string ⟨#[]⟩):=(aj hz 1).trans rfl;have hf0:=au hz 0;have hf1:=au hz 1;have q3:=zT h8;have H1:=zM (zA hz (zA hb hf));clear h2 hz hb h8 hf;go_wp2_with fail;refine bodyPost_ret (eY rfl _ _ w.heap.size 39 #[.string ⟨#[]⟩,.string ⟨#[]⟩] (0,0) _ rfl (by first|exact H1.out.1|(have h:=aN (aN (H1.out.1) 0 (.string ⟨#[]⟩)) 1 (.string ⟨#[]⟩);first|exact h|simpa using h)) Tryz.underlying39 rfl (by kernel_rfl)) rfl ?_;exact⟨⟨#[]⟩,⟨#[]⟩,3,_,rfl,.inr (.inl ⟨HQ.out,H1.out.2.2,rfl,rfl,rfl⟩),by first|exact H1.out.2.1|exact((H1.out.2.1).setCell (Nat.le_refl _) _).setCell (Nat.le_refl _) _⟩
  ·obtain⟨p,hp⟩:∃p,eP f.m=p:=⟨_,rfl⟩;obtain⟨x,hx⟩:∃x,kC f=x:=⟨_,rfl⟩;have hgood:=su hf HQ.out;have hpc:=(kV f.m hgood.1).1;have hps:=(kV f.m hgood.1).2.2.1;have Na:=OG hgood;rw[hp]at hpc hps;rw[hx]at Na;rw[hp,hx];have HG:=zM (zA hgood (zA hp (zA hx (zA hpc (zA (show p.size≤65537 by have:=hgood.2.1;omega) Na)))));have Jz:=zM hf;clear hp hx hpc hps Na hgood hf;obtain⟨ng,ZE⟩:∃b,f.neg=b:=⟨_,rfl⟩;obtain⟨dn,hdn⟩:∃b,f.down=b:=⟨_,rfl⟩;obtain⟨bh,hbh⟩:∃b,f.behind=b:=⟨_,rfl⟩;obtain⟨sl,hsl⟩:∃b,f.slash=b:=⟨_,rfl⟩;rw[ZE,hdn,hbh,hsl];have HN:=zM (zA ZE (zA hdn hbh));clear ZE hdn hbh hsl;cases hfr:f.Ce
   ·have hden:Ag f=⟨#[]⟩:=if_neg (by rw[hfr];decide);rw[hden];have BJ:=zM hfr;clear hden hfr;have hz:=aT (aT H0.out.2 h2) (ag (Below.refl w1.heap.size w1) (.cells #[.bool ng,.string p,.string x,.bool dn,.int .i64 bh,.string ⟨#[]⟩,.int .i64 sl] 226));have hb:=ah (ah H0.out.1 H0.out.1.size h2) (ah H0.out.1 H0.out.1.size h2).size (ag (Below.refl w1.heap.size w1) (.cells #[.bool ng,.string p,.string x,.bool dn,.int .i64 bh,.string ⟨#[]⟩,.int .i64 sl] 226));have hn1:=bZ w1 (.cells #[.bool ng,.string p,.string x,.bool dn,.int .i64 bh,.string ⟨#[]⟩,.int .i64 sl] 226);obtain⟨W2,hW2⟩:∃W2,w1.alloc (.cells #[.bool ng,.string p,.string x,.bool dn,.int .i64 bh,.string ⟨#[]⟩,.int .i64 sl] 226)=W2:=⟨_,rfl⟩;rw[hW2]at hz hb hn1;obtain⟨c0,c1,c2,c3,c4,c5,c6⟩:=seven hn1;have H1:=zM (zA hz (zA hb hn1));clear h2 hz hb hn1;go_wp2_with fail;refine(L6 ng p x dn bh ⟨#[]⟩ sl _ HG.out.2.2.2.2.2 (by rw[←HN.out.2.2];exact HG.out.1.2.2.2.1) (by rw[←HN.out.2.2];exact HG.out.1.2.2.2.2.1)).mono ?_;rintro e w3 ⟨⟨h3,rfl⟩|⟨h3,h4,rfl⟩,h5⟩
    ·have hz:=aT H1.out.1 h5;have hb:=ah H1.out.2.1 H1.out.2.1.size h5;have hz0:w3.cell? ⟨w.heap.size,0,none⟩=some (.string ⟨#[]⟩):=(aj hz 0).trans rfl;have hz1:w3.cell? ⟨w.heap.size,1,none⟩=some (.string ⟨#[]⟩):=(aj hz 1).trans rfl;have hf0:=au hz 0;have hf1:=au hz 1;have H2:=zM (zA hz (zA hb (ae6 HG.out.1 (by rw[HG.out.2.2.1];exact h3))));clear hz hb h3 h5;go_wp2_with fail;refine bodyPost_ret (eY rfl _ _ w.heap.size 39 #[.string ⟨#[]⟩,.string ⟨#[]⟩] (0,0) _ rfl (by first|exact H2.out.1|(have h:=aN (aN (H2.out.1) 0 (.string ⟨#[]⟩)) 1 (.string ⟨#[]⟩);first|exact h|simpa using h)) Tryz.underlying39 rfl (by kernel_rfl)) rfl ?_;exact⟨⟨#[]⟩,⟨#[]⟩,7,_,rfl,.inr (.inr ⟨HQ.out,f,Jz.out,.inl ⟨.inr (.inr ⟨BJ.out,fun k hk=>absurd hk (H2.out.2.2 k),rfl⟩),rfl,rfl⟩⟩),by first|exact H2.out.2.1|exact((H2.out.2.1).setCell (Nat.le_refl _) _).setCell (Nat.le_refl _) _⟩
    ·have hok:=ae7 HG.out.1 (by rw[HG.out.2.2.1];exact h3) (by rw[HG.out.2.2.1];exact h4);rw[HG.out.2.2.1,HN.out.2.1,HN.out.2.2]at hok;have hx0:=o8 HG.out.2.2.2.2.2 0 (Int.le_refl _);have alv:0≤bh:=by rw[←HN.out.2.2];exact HG.out.1.2.2.2.1
     have alx:bh≤65536:=by rw[←HN.out.2.2];exact HG.out.1.2.2.2.2.1
     obtain⟨k,hk⟩:∃k,(if dn=true then- dv x else dv x)- bh=k:=⟨_,rfl⟩;rw[hk]at hok⊢;have hx1:0≤dv x:=hx0
     have hk0: -70000≤k∧k≤10000:=by
      rw[←hk];cases dn
      ·rw[if_neg (by decide)];omega
      ·rw[if_pos rfl];omega
     have hz:=aT H1.out.1 h5;have hn1:=aT H1.out.2.2 h5;have hb:=ah H1.out.2.1 H1.out.2.1.size h5;have hz0:w3.cell? ⟨w.heap.size,0,none⟩=some (.string ⟨#[]⟩):=(aj hz 0).trans rfl;have hz1:w3.cell? ⟨w.heap.size,1,none⟩=some (.string ⟨#[]⟩):=(aj hz 1).trans rfl;have hf0:=au hz 0;have hf1:=au hz 1;obtain⟨c0,c1,_,_,_,_,_⟩:=seven hn1;have H2:=zM (zA hz (zA hb (zA hok hk0)));clear hz hb hn1 h3 h4 h5 hok hk0 hk hx0 hx1 alv alx;go_wp2_with fail;refine(Me ng p k _ HG.out.2.2.2.1 (by have:=HG.out.2.2.2.2.1;omega) H2.out.2.2.2.1 H2.out.2.2.2.2).mono ?_;rintro e w4 ⟨⟨h3,rfl⟩|⟨h3,n,d,rfl,h4⟩,h5⟩
     ·have hz:=aT (aT H2.out.1 h5) (ag (Below.refl w4.heap.size w4) (.cells #[.bool false,.string ⟨#[]⟩,.string ⟨#[]⟩] 231));have hb:=ah (ah H2.out.2.1 H2.out.2.1.size h5) (ah H2.out.2.1 H2.out.2.1.size h5).size (ag (Below.refl w4.heap.size w4) (.cells #[.bool false,.string ⟨#[]⟩,.string ⟨#[]⟩] 231));have hz0:(w4.alloc (.cells #[.bool false,.string ⟨#[]⟩,.string ⟨#[]⟩] 231)).cell? ⟨w.heap.size,0,none⟩=some (.string ⟨#[]⟩):=(aj hz 0).trans rfl;have hz1:(w4.alloc (.cells #[.bool false,.string ⟨#[]⟩,.string ⟨#[]⟩] 231)).cell? ⟨w.heap.size,1,none⟩=some (.string ⟨#[]⟩):=(aj hz 1).trans rfl;have hf0:=au hz 0;have hf1:=au hz 1;have H3:=zM (zA hz (zA hb h3));clear hz hb h3 h5;go_wp2_with fail;refine bodyPost_ret (eY rfl _ _ w.heap.size 39 #[.string ⟨#[]⟩,.string ⟨#[]⟩] (0,0) _ rfl (by first|exact H3.out.1|(have h:=aN (aN (H3.out.1) 0 (.string ⟨#[]⟩)) 1 (.string ⟨#[]⟩);first|exact h|simpa using h)) Tryz.underlying39 rfl (by kernel_rfl)) rfl ?_;exact⟨⟨#[]⟩,⟨#[]⟩,7,_,rfl,.inr (.inr ⟨HQ.out,f,Jz.out,.inl ⟨.inr (.inr ⟨BJ.out,fun k2 hk2=>by rw[F6 hk2 H2.out.2.2.1,HG.out.2.1];exact H3.out.2.2,rfl⟩),rfl,rfl⟩⟩),by first|exact H3.out.2.1|exact((H3.out.2.1).setCell (Nat.le_refl _) _).setCell (Nat.le_refl _) _⟩
     ·obtain⟨sg,hsg⟩:∃b,(ng&&decide (dv p≠0))=b:=⟨_,rfl⟩;rw[hsg];have hd:=Qh h3 HG.out.2.2.2.1;have hnn:=Lp h4 hd.1 hd.2.1 hd.2.2.1;have hz:=aT (aT H2.out.1 h5) (ag (Below.refl w4.heap.size w4) (.cells #[.bool sg,.string n,.string d] 231));have hb:=ah (ah H2.out.2.1 H2.out.2.1.size h5) (ah H2.out.2.1 H2.out.2.1.size h5).size (ag (Below.refl w4.heap.size w4) (.cells #[.bool sg,.string n,.string d] 231));have hn1:=bZ w4 (.cells #[.bool sg,.string n,.string d] 231);obtain⟨W5,hW5⟩:∃W5,w4.alloc (.cells #[.bool sg,.string n,.string d] 231)=W5:=⟨_,rfl⟩;rw[hW5]at hz hb hn1;obtain⟨c0,c1,c2⟩:=zi hn1;have H3:=zM (zA hz (zA hb (zA h3 (zA h4 (zA hsg hnn)))));clear hz hb hn1 h3 h4 h5 hsg hnn hd;go_wp2_with fail;refine(yV sg n d _ H3.out.2.2.2.2.2).mono ?_;rintro e w6 ⟨a,b,c,rfl,h1,h2⟩;have hz:=aT (aT H3.out.1 h2) (ag (Below.refl w6.heap.size w6) (.cells #[.string a,.string b] 39));have hb:=ah (ah H3.out.2.1 H3.out.2.1.size h2) (ah H3.out.2.1 H3.out.2.1.size h2).size (ag (Below.refl w6.heap.size w6) (.cells #[.string a,.string b] 39));have hn1:=bZ w6 (.cells #[.string a,.string b] 39);obtain⟨W7,hW7⟩:∃W7,w6.alloc (.cells #[.string a,.string b] 39)=W7:=⟨_,rfl⟩;rw[hW7]at hz hb hn1;have hz0:W7.cell? ⟨w.heap.size,0,none⟩=some (.string ⟨#[]⟩):=(aj hz 0).trans rfl;have hz1:W7.cell? ⟨w.heap.size,1,none⟩=some (.string ⟨#[]⟩):=(aj hz 1).trans rfl;have hf0:=au hz 0;have hf1:=au hz 1;obtain⟨k0,k1⟩:=Jp hn1;have H4:=zM (zA hz (zA hb h1));clear hz hb hn1 h1 h2;go_wp2_with fail;refine bodyPost_ret (eY rfl _ _ w.heap.size 39 #[.string a,.string b] (0,0) _ rfl (by first|exact H4.out.1|(have h:=aN (aN (H4.out.1) 0 (.string a)) 1 (.string b);first|exact h|simpa using h)) Tryz.underlying39 rfl (by kernel_rfl)) rfl ?_;exact⟨a,b,c,_,rfl,.inr (.inr ⟨HQ.out,f,Jz.out,.inr ⟨dv p*10^k.toNat,10^(-k).toNat,.inr ⟨BJ.out,k,H2.out.2.2.1,by rw[HG.out.2.1];exact H3.out.2.2.1,by rw[HG.out.2.1],rfl⟩,n,d,H3.out.2.2.2.1,by rw[HN.out.1,Tj (fP HG.out.2.2.2.1),H3.out.2.2.2.2.1];exact H4.out.2.2⟩⟩),by first|exact H4.out.2.1|exact((H4.out.2.1).setCell (Nat.le_refl _) _).setCell (Nat.le_refl _) _⟩
   ·have hden:Ag f=eP f.den:=if_pos hfr;obtain⟨q,hq⟩:∃q,eP f.den=q:=⟨_,rfl⟩;rw[hq]at hden;rw[hden];have hqc:=(kV f.den HG.out.1.2.2.2.2.2.1).1;rw[hq]at hqc
    have hqe:(q.toList==[])=false:=by
     rw[ByteArray.toList_eq];have h:=bV q;have h1:=hqc.1;cases hh:q.data.toList with
     |nil=>rw[hh]at h;simp at h;omega
     |cons a b=>rfl
    have BJ:=zM (zA hfr (zA hq hqc));clear hden hfr hq hqc;have hz:=aT (aT H0.out.2 h2) (ag (Below.refl w1.heap.size w1) (.cells #[.bool ng,.string p,.string x,.bool dn,.int .i64 bh,.string q,.int .i64 sl] 226));have hb:=ah (ah H0.out.1 H0.out.1.size h2) (ah H0.out.1 H0.out.1.size h2).size (ag (Below.refl w1.heap.size w1) (.cells #[.bool ng,.string p,.string x,.bool dn,.int .i64 bh,.string q,.int .i64 sl] 226));have hn1:=bZ w1 (.cells #[.bool ng,.string p,.string x,.bool dn,.int .i64 bh,.string q,.int .i64 sl] 226);obtain⟨W2,hW2⟩:∃W2,w1.alloc (.cells #[.bool ng,.string p,.string x,.bool dn,.int .i64 bh,.string q,.int .i64 sl] 226)=W2:=⟨_,rfl⟩;rw[hW2]at hz hb hn1;obtain⟨c0,c1,_,_,_,c5,c6⟩:=seven hn1;have hz0:W2.cell? ⟨w.heap.size,0,none⟩=some (.string ⟨#[]⟩):=(aj hz 0).trans rfl;have hz1:W2.cell? ⟨w.heap.size,1,none⟩=some (.string ⟨#[]⟩):=(aj hz 1).trans rfl;have hf0:=au hz 0;have hf1:=au hz 1;have H1:=zM (zA hz (zA hb hn1));clear h2 hz hb hn1;obtain⟨bq,hbq⟩:∃b,(q.toList==[48])=b:=⟨_,rfl⟩;have oV:=zM hbq;cases bq
    ·have hq0:dv q≠0:=by
      intro h;exact absurd (oV.out.symm.trans ((iZ BJ.out.2.2 48 (by decide) (by decide)).2 (by rw[h];rfl))) (by decide)
     have HQ0:=zM hq0;clear hq0
     by_cases hps:600<p.size
     ·have q3:decide (600<(p.size:Int))=true:=decide_eq_true (by omega);have q4:=zT hps;have yg:=zM hps;clear hps;go_wp2_with fail;refine bodyPost_ret (eY rfl _ _ w.heap.size 39 #[.string ⟨#[]⟩,.string ⟨#[]⟩] (0,0) _ rfl (by first|exact H1.out.1|(have h:=aN (aN (H1.out.1) 0 (.string ⟨#[]⟩)) 1 (.string ⟨#[]⟩);first|exact h|simpa using h)) Tryz.underlying39 rfl (by kernel_rfl)) rfl ?_;exact⟨⟨#[]⟩,⟨#[]⟩,7,_,rfl,.inr (.inr ⟨HQ.out,f,Jz.out,.inl ⟨.inr (.inl ⟨BJ.out.1,by rw[BJ.out.2.1];exact oV.out,by rw[HG.out.2.1];exact .inl yg.out,rfl⟩),rfl,rfl⟩⟩),by first|exact H1.out.2.1|exact((H1.out.2.1).setCell (Nat.le_refl _) _).setCell (Nat.le_refl _) _⟩
     ·have q3:decide (600<(p.size:Int))=false:=decide_eq_false (by omega);have q4:=zF hps;have yg:=zM hps;clear hps
      by_cases MZ:600<q.size
      ·have q5:decide (600<(q.size:Int))=true:=decide_eq_true (by omega);have q6:=zT MZ;have TM:=zM MZ;clear MZ;go_wp2_with fail;refine bodyPost_ret (eY rfl _ _ w.heap.size 39 #[.string ⟨#[]⟩,.string ⟨#[]⟩] (0,0) _ rfl (by first|exact H1.out.1|(have h:=aN (aN (H1.out.1) 0 (.string ⟨#[]⟩)) 1 (.string ⟨#[]⟩);first|exact h|simpa using h)) Tryz.underlying39 rfl (by kernel_rfl)) rfl ?_;exact⟨⟨#[]⟩,⟨#[]⟩,7,_,rfl,.inr (.inr ⟨HQ.out,f,Jz.out,.inl ⟨.inr (.inl ⟨BJ.out.1,by rw[BJ.out.2.1];exact oV.out,by rw[BJ.out.2.1];exact .inr TM.out,rfl⟩),rfl,rfl⟩⟩),by first|exact H1.out.2.1|exact((H1.out.2.1).setCell (Nat.le_refl _) _).setCell (Nat.le_refl _) _⟩
      ·have q5:decide (600<(q.size:Int))=false:=decide_eq_false (by omega);have q6:=zF MZ;have TM:=zM MZ;clear MZ;go_wp2_with fail;refine(Bo ng p q _ HG.out.2.2.2.1 BJ.out.2.2 HQ0.out (by have:=yg.out;omega) (by have:=TM.out;omega)).mono ?_;rintro e w3 ⟨n,d,rfl,h4,h5⟩;obtain⟨sg,hsg⟩:∃b,(ng&&decide (dv p≠0))=b:=⟨_,rfl⟩;rw[hsg];have hq1:0<dv q:=by have:=fP BJ.out.2.2;have:=HQ0.out;omega
       have hnn:=Lp h4 (fP HG.out.2.2.2.1) (o5 HG.out.2.2.2.1.2.2 (by have:=yg.out;omega)) hq1;have H3:=zM (zA (aT H1.out.1 h5) (zA (ah H1.out.2.1 H1.out.2.1.size h5) (zA h4 (zA hsg hnn))));clear h4 h5 hsg hnn hq1;go_wp2_with fail;refine(yV sg n d _ H3.out.2.2.2.2).mono ?_;rintro e w6 ⟨a,b,c,rfl,h1,h2⟩;have hz:=aT (aT H3.out.1 h2) (ag (Below.refl w6.heap.size w6) (.cells #[.string a,.string b] 39));have hb:=ah (ah H3.out.2.1 H3.out.2.1.size h2) (ah H3.out.2.1 H3.out.2.1.size h2).size (ag (Below.refl w6.heap.size w6) (.cells #[.string a,.string b] 39));have hn1:=bZ w6 (.cells #[.string a,.string b] 39);obtain⟨W7,hW7⟩:∃W7,w6.alloc (.cells #[.string a,.string b] 39)=W7:=⟨_,rfl⟩;rw[hW7]at hz hb hn1;have hz0:W7.cell? ⟨w.heap.size,0,none⟩=some (.string ⟨#[]⟩):=(aj hz 0).trans rfl;have hz1:W7.cell? ⟨w.heap.size,1,none⟩=some (.string ⟨#[]⟩):=(aj hz 1).trans rfl;have hf0:=au hz 0;have hf1:=au hz 1;obtain⟨k0,k1⟩:=Jp hn1;have H4:=zM (zA hz (zA hb h1));clear hz hb hn1 h1 h2;go_wp2_with fail;refine bodyPost_ret (eY rfl _ _ w.heap.size 39 #[.string a,.string b] (0,0) _ rfl (by first|exact H4.out.1|(have h:=aN (aN (H4.out.1) 0 (.string a)) 1 (.string b);first|exact h|simpa using h)) Tryz.underlying39 rfl (by kernel_rfl)) rfl ?_;exact⟨a,b,c,_,rfl,.inr (.inr ⟨HQ.out,f,Jz.out,.inr ⟨dv p,dv q,.inl ⟨BJ.out.1,by rw[BJ.out.2.1];exact oV.out,by rw[HG.out.2.1,BJ.out.2.1];rintro(h|h);exact yg.out h;exact TM.out h,by rw[HG.out.2.1],by rw[BJ.out.2.1]⟩,n,d,H3.out.2.2.1,by rw[HN.out.1,H3.out.2.2.2.1];exact H4.out.2.2⟩⟩),by first|exact H4.out.2.1|exact((H4.out.2.1).setCell (Nat.le_refl _) _).setCell (Nat.le_refl _) _⟩
    ·go_wp2_with fail;go_region;go_wp2_with fail;refine bodyPost_ret (eY rfl _ _ w.heap.size 39 #[.string ⟨#[]⟩,.string ⟨#[]⟩] (0,0) _ rfl (by first|exact H1.out.1|(have h:=aN (aN (H1.out.1) 0 (.string ⟨#[]⟩)) 1 (.string ⟨#[]⟩);first|exact h|simpa using h)) Tryz.underlying39 rfl (by kernel_rfl)) rfl ?_;exact⟨⟨#[]⟩,⟨#[]⟩,8,_,rfl,.inr (.inr ⟨HQ.out,f,Jz.out,.inl ⟨.inl ⟨BJ.out.1,by rw[BJ.out.2.1];exact oV.out,rfl⟩,rfl,rfl⟩⟩),by first|exact dB (H1.out.2.1)|exact((dB (H1.out.2.1)).setCell (Nat.le_refl _) _).setCell (Nat.le_refl _) _⟩
theorem wV (s:ByteArray)(w:World):
  Calls Tryz.prog 78 #[.string s] w fun e w'=>∃n d er,e= .returned (.tuple #[.agg #[.string n,.string d],.int .i64 er])∧(∃n2 d2,lW s n2 d2 er∧(er=0→n=n2∧d=d2))∧Below w.heap.size w w':=by
 have hb0:Below w.heap.size w (w.alloc (.cells #[.string ⟨#[]⟩,.string ⟨#[]⟩] 39)):=ag (Below.refl _ _) _;have H0:=zM (zA hb0 (bZ w (.cells #[.string ⟨#[]⟩,.string ⟨#[]⟩] 39)));clear hb0;go_enter Tryz.func78,Tryz.ntmps78;go_wp2_with fail;refine(Fg s _).mono ?_;rintro e w1 ⟨n,d,er,pos,rfl,h1,h2⟩;have hz:=aT (aT H0.out.2 h2) (ag (Below.refl w1.heap.size w1) (.cells #[.string n,.string d] 39));have hb:=ah (ah H0.out.1 H0.out.1.size h2) (ah H0.out.1 H0.out.1.size h2).size (ag (Below.refl w1.heap.size w1) (.cells #[.string n,.string d] 39));have hn1:=bZ w1 (.cells #[.string n,.string d] 39);have H1:=zM (zA h1 (zA hz (zA hb hn1)));obtain⟨W2,hW2⟩:∃W2,w1.alloc (.cells #[.string n,.string d] 39)=W2:=⟨_,rfl⟩;rw[hW2]at hz hb hn1 H1;have hz0:W2.cell? ⟨w.heap.size,0,none⟩=some (.string ⟨#[]⟩):=(aj hz 0).trans rfl;have hz1:W2.cell? ⟨w.heap.size,1,none⟩=some (.string ⟨#[]⟩):=(aj hz 1).trans rfl;have hf0:=au hz 0;have hf1:=au hz 1;have hy0:W2.cell? ⟨w1.heap.size,0,none⟩=some (.string n):=(aj hn1 0).trans rfl;have hy1:W2.cell? ⟨w1.heap.size,1,none⟩=some (.string d):=(aj hn1 1).trans rfl;clear h1 h2 hz hb hn1
 by_cases he:er=0
 ·have HE:=zM he;subst he;have HR:=zM (Bv H1.out.1 rfl);go_wp2_with fail;refine(Jh n d _ HR.out).mono ?_;rintro e w3 ⟨rfl,h1⟩;have hz:=aT H1.out.2.1 h1;have hn1:=aT H1.out.2.2.2 h1;have hb:=ah H1.out.2.2.1 H1.out.2.2.1.size h1;have hz0:w3.cell? ⟨w.heap.size,0,none⟩=some (.string ⟨#[]⟩):=(aj hz 0).trans rfl;have hz1:w3.cell? ⟨w.heap.size,1,none⟩=some (.string ⟨#[]⟩):=(aj hz 1).trans rfl;have hf0:=au hz 0;have hf1:=au hz 1;have hy0:w3.cell? ⟨w1.heap.size,0,none⟩=some (.string n):=(aj hn1 0).trans rfl;have hy1:w3.cell? ⟨w1.heap.size,1,none⟩=some (.string d):=(aj hn1 1).trans rfl;have H3:=zM (zA hz hb);clear h1 hz hb hn1;obtain⟨R,hRR⟩:∃R,mf n d=R:=⟨_,rfl⟩;rw[hRR];obtain⟨b,hbb⟩:∃b,(R.toList==s.toList)=b:=⟨_,rfl⟩;have HB:=zM (show((mf n d).toList==s.toList)=b by rw[hRR];exact hbb);clear hRR;cases b
  ·go_wp2_with fail;refine bodyPost_ret (dw rfl _ _ w.heap.size 39 #[.string ⟨#[]⟩,.string ⟨#[]⟩] (0,0) _ rfl (by first|exact H3.out.1|(have h:=aN (aN (H3.out.1) 0 (.string ⟨#[]⟩)) 1 (.string ⟨#[]⟩);first|exact h|simpa using h)) Tryz.underlying39 rfl (by kernel_rfl)) rfl ?_;exact⟨⟨#[]⟩,⟨#[]⟩,3,rfl,⟨n,d,⟨0,H1.out.1,.inr (.inl ⟨rfl,HB.out,rfl⟩)⟩,fun h=>absurd h (by decide)⟩,by first|exact H3.out.2|exact((H3.out.2).setCell (Nat.le_refl _) _).setCell (Nat.le_refl _) _⟩
  ·go_wp2_with fail;refine bodyPost_ret (dw rfl _ _ w.heap.size 39 #[.string n,.string d] (0,0) _ rfl (by have h:=aN (aN (H3.out.1) 0 (.string n)) 1 (.string d);first|exact h|simpa using h) Tryz.underlying39 rfl (by kernel_rfl)) rfl ?_;exact⟨n,d,0,rfl,⟨n,d,⟨0,H1.out.1,.inr (.inr ⟨rfl,HB.out,rfl⟩)⟩,fun _=>⟨rfl,rfl⟩⟩,((H3.out.2).setCell (Nat.le_refl _) _).setCell (Nat.le_refl _) _⟩
 ·have q0:(er !=0)=true:=bne_iff_ne.mpr he;have HE:=zM he;clear he;go_wp2_with fail;refine bodyPost_ret (dw rfl _ _ w.heap.size 39 #[.string ⟨#[]⟩,.string ⟨#[]⟩] (0,0) _ rfl (by first|exact H1.out.2.1|(have h:=aN (aN (H1.out.2.1) 0 (.string ⟨#[]⟩)) 1 (.string ⟨#[]⟩);first|exact h|simpa using h)) Tryz.underlying39 rfl (by kernel_rfl)) rfl ?_;exact⟨⟨#[]⟩,⟨#[]⟩,er,rfl,⟨n,d,⟨er,H1.out.1,.inl ⟨HE.out,rfl⟩⟩,fun h=>absurd h HE.out⟩,by first|exact H1.out.2.2.1|exact((H1.out.2.2.1).setCell (Nat.le_refl _) _).setCell (Nat.le_refl _) _⟩
end Go.Proofs.YthbdjmopolpjmaaGreatDoor.C
