/- Part 18 of the proof. -/
import Derived.Deep.DeepWitnessRowRef
import Derived.Deep.Slices
import Derived.Lay
import Derived.OpenShut
import Derived.ProofKit
import Derived.Stop.LaidErr
import Derived.Test.YthbdjmopolpjmaaGreatDoorCards
import Derived.Test.YthbdjmopolpjmaaGreatDoorTie
import Derived.Test.YthbdjmopolpjmaaGreatDoorR17
set_option linter.unusedVariables false
set_option linter.unusedSimpArgs false
set_option maxHeartbeats 8000000
set_option maxRecDepth 100000
namespace Go.Proofs.YthbdjmopolpjmaaGreatDoor.C
open Go.RowKit Go.Proofs.YthbdjmopolpjmaaGreatDoorW.PrintWords Go.Proofs.YthbdjmopolpjmaaGreatDoorW.PrintLast Go.Proofs.YthbdjmopolpjmaaGreatDoorW.PrintMore Go.Proofs.YthbdjmopolpjmaaGreatDoor.F Go.Proofs.YthbdjmopolpjmaaGreatDoor.M
attribute [local go_sem] max2_int min2_int max_two min_two max_three min_three max_four min_four
theorem Rx {ps:List Int}{x y:Int}{qs:List Int}(wp:Wd ps)(h:QX x y ps qs)(hy:0<y):(!ps.isEmpty)=decide (x≠0):=by
 have hg:=qy (a:=x) hy;cases ps with
 |nil=>
  have h1:=h.1;rw[show val 4294967296 []=0 from rfl,Int.zero_mul]at h1;rw[←h1];rfl
 |cons a l=>
  have h2:=uQ (B:=4294967296) (by omega) wp.1 wp.2.1 (by simp);have h3:(0:Int)<4294967296^((a::l).length- 1):=Int.pow_pos (by omega);have h4:0<x:=by rw[←h.1];exact Int.mul_pos (by omega) hg
  rw[decide_eq_true (by omega)];rfl
theorem F7 (qs:List Int):iH (iH qs)=iH qs:=by
 have:iH qs≠[]:=by unfold iH;split<;>simp_all
 rw[show iH (iH qs)=iH qs from if_neg this]
theorem dW {xs:List Int}(h:Wd xs):0≤val 4294967296 xs:=by
 cases hx:xs with
 |nil=>exact Int.le_refl _
 |cons a l=>
  rw[←hx];have h2:=uQ (B:=4294967296) (by omega) h.1 h.2.1 (by rw[hx];simp);exact Int.le_trans (Int.le_of_lt (Int.pow_pos (by omega))) h2
def Dt (s:ByteArray)(f:Fm)(g:Nat)(w wc:World)(r:Nat)(ps qs:List Int)(x y:Int):Prop:=
 kU wc r false ps qs∧Wd ps∧Wd qs∧QX x y ps (iH qs)∧FC f x y∧ps.length≤100000∧(iH qs).length≤100000∧0<y∧wc.heap[w.heap.size]?=some (.cells #[.string ⟨#[]⟩,.string ⟨#[]⟩] 39 (0,0))∧Below w.heap.size w wc∧w.heap.size<r∧(∃i bad,qg wc g s i bad f)
theorem Fa (s:ByteArray)(w:World):
  Calls Tryz.prog 108 #[.string s] w fun e w'=>∃n d er pos,e= .returned (.tuple #[.agg #[.string n,.string d],.int .i64 er,.int .i64 pos])∧qZ s n d er∧Below w.heap.size w w':=by
 have hb0:Below w.heap.size w (w.alloc (.cells #[.string ⟨#[]⟩,.string ⟨#[]⟩] 39)):=ag (Below.refl _ _) _;have H0:=zM (zA hb0 (bZ w (.cells #[.string ⟨#[]⟩,.string ⟨#[]⟩] 39)));clear hb0
 by_cases hbig:65536<s.size
 ·have q1:decide (65536<(s.size:Int))=true:=decide_eq_true (by omega);have q2:=zT hbig;have HQ:=zM hbig;clear hbig;go_enter Tryz.func108,Tryz.ntmps108;go_wp2_with fail;refine bodyPost_ret (eY rfl _ _ w.heap.size 39 #[.string ⟨#[]⟩,.string ⟨#[]⟩] (0,0) _ rfl (by exact H0.out.2) Tryz.underlying39 rfl (by kernel_rfl)) rfl ?_;exact⟨⟨#[]⟩,⟨#[]⟩,4,_,rfl,.inl ⟨HQ.out,rfl,rfl,rfl⟩,H0.out.1⟩
 ·have q1:decide (65536<(s.size:Int))=false:=decide_eq_false (by omega);have q2:=zF hbig;have HQ:=zM (show s.size≤65536 by omega);clear hbig;go_enter Tryz.func108,Tryz.ntmps108;go_wp2_with fail;refine(KD s _ HQ.out).mono ?_;rintro e w1 ⟨g,ok,i,bad,f,rfl,h1,h2,h3,h4⟩;have hgn:g≠w.heap.size:=by have:=H0.out.1.size;have h5:w.heap.size<(w.alloc (.cells #[.string ⟨#[]⟩,.string ⟨#[]⟩] 39)).heap.size:=dV H0.out.2;omega
  have hgn2:w.heap.size≠g:=Ne.symm hgn;obtain⟨a3,a4,a5,a6,a7,a8,a9,a10,af⟩:=h1.all;obtain⟨_,c1,_,_,_⟩:=h1.cells;have hz:=aT H0.out.2 h2;have hz0:w1.cell? ⟨w.heap.size,0,none⟩=some (.string ⟨#[]⟩):=(aj hz 0).trans rfl;have hz1:w1.cell? ⟨w.heap.size,1,none⟩=some (.string ⟨#[]⟩):=(aj hz 1).trans rfl;have hf0:=au hz 0;have hf1:=au hz 1;have hb1:=ah H0.out.1 H0.out.1.size h2;have hw1:w.heap.size<w1.heap.size:=dV hz;have H1:=zM (zA h1 (zA hz (zA hb1 (zA h3 hw1))));clear h1 h2 h3 h4 hz hb1 hw1;cases ok
  ·have Jz:=zM (show gp s=none from H1.out.2.2.2.1.trans (if_neg (by decide)));go_wp2_with fail;go_region;go_wp2_with fail;refine bodyPost_ret (eY rfl _ _ w.heap.size 39 #[.string ⟨#[]⟩,.string ⟨#[]⟩] (0,0) _ rfl (by have h:=aN (aN (H1.out.2.1) 0 (.string ⟨#[]⟩)) 1 (.string ⟨#[]⟩);first|exact h|simpa using h) Tryz.underlying39 rfl (by kernel_rfl)) rfl ?_;exact⟨⟨#[]⟩,⟨#[]⟩,3,_,rfl,.inr (.inl ⟨HQ.out,Jz.out,rfl,rfl,rfl⟩),dB ((H1.out.2.2.1.setCell (Nat.le_refl _) _).setCell (Nat.le_refl _) _)⟩
  ·obtain⟨p,hp⟩:∃p,eP f.m=p:=⟨_,rfl⟩;obtain⟨q,hq⟩:∃q,eP f.den=q:=⟨_,rfl⟩;have hgood:=su (H1.out.2.2.2.1.trans (if_pos rfl)) HQ.out;have hpc:=kV f.m hgood.1;have hqc:=kV f.den hgood.2.2.2.2.2.1;rw[hp]at hpc;rw[hq]at hqc;have hfs:gp s=some f:=H1.out.2.2.2.1.trans (if_pos rfl);have HG:=zM (zA hgood (zA hp (zA hq (zA hpc.1 hqc.1))));have Jz:=zM hfs;have HBM:=zM (show∀W,Calls Tryz.prog 144 #[.string f.m] W fun e w'=>e= .returned (.string p)∧w'=W from fun W=>by rw[←hp];exact uX f.m W);have HBQ:=zM (show∀W,Calls Tryz.prog 144 #[.string f.den] W fun e w'=>e= .returned (.string q)∧w'=W from fun W=>by rw[←hq];exact uX f.den W);clear hp hq hgood hpc hqc hfs;obtain⟨fr,hfr⟩:∃b,f.Ce=b:=⟨_,rfl⟩;rw[hfr]at a9;have BJ:=zM hfr;clear hfr;go_upto_if 31 with(fail);go_cut [7] (fun v7 wc=>∃(r:Nat) (ps qs:List Int) (x y:Int),v7= .pointer (some ⟨r,0,none⟩)∧Aside0 (Dt s f g w wc r ps qs x y))
   case first=>
    cases fr
    ·go_wp2_with fail;refine(Iu g s i bad f _ H1.out.1 HG.out.1.1 HG.out.1.2.1 HG.out.1.2.2.1 HG.out.1.2.2.2.1 HG.out.1.2.2.2.2.1).mono ?_;rintro e w2 (⟨rfl,h1,h2⟩|⟨k,r,ps,qs,rfl,h1,h2,h3,h4,h5,h6,h7,h8⟩)
     ·have hz:=aT H1.out.2.1 h1;have hz0:w2.cell? ⟨w.heap.size,0,none⟩=some (.string ⟨#[]⟩):=(aj hz 0).trans rfl;have hz1:w2.cell? ⟨w.heap.size,1,none⟩=some (.string ⟨#[]⟩):=(aj hz 1).trans rfl;have hf0:=au hz 0;have hf1:=au hz 1;have H2:=zM (zA hz (zA (ah H1.out.2.2.1 H1.out.2.2.1.size h1) h2));clear h1 h2 hz;go_wp2_with fail;refine bodyPost_ret (eY rfl _ _ w.heap.size 39 #[.string ⟨#[]⟩,.string ⟨#[]⟩] (0,0) _ rfl (by have h:=aN (aN (H2.out.1) 0 (.string ⟨#[]⟩)) 1 (.string ⟨#[]⟩);simpa using h) Tryz.underlying39 rfl (by kernel_rfl)) rfl ?_;exact⟨⟨#[]⟩,⟨#[]⟩,7,_,rfl,.inr (.inr ⟨HQ.out,f,Jz.out,.inl ⟨.inr (.inr ⟨BJ.out,H2.out.2.2,rfl⟩),rfl,rfl⟩⟩),((H2.out.2.1).setCell (Nat.le_refl _) _).setCell (Nat.le_refl _) _⟩
     ·have hd:=Qh h2 (by rw[HG.out.2.1];exact HG.out.2.2.2.1);have hdl:=QA h7 hd.1 hd.2.2.1 (dW h5) (dW (jT h6));have H2:=zM (show Dt s f g w w2 r ps qs (dv (eP f.m)*10^k.toNat) (10^(-k).toNat)from⟨h4,h5,h6,h7,.inr ⟨BJ.out,k,h1,h2,rfl,rfl⟩,Nat.le_trans (qU h5 1200 (Int.le_trans hdl.1 hd.2.1)) (by omega),Nat.le_trans (qU (jT h6) 600 (Int.le_trans hdl.2 hd.2.2.2)) (by omega),hd.2.2.1,aT H1.out.2.1 h8,ah H1.out.2.2.1 H1.out.2.2.1.size h8,Nat.lt_of_lt_of_le H1.out.2.2.2.2 h3,i,bad,H1.out.1.below h8⟩);clear h1 h2 h3 h4 h5 h6 h7 h8 hd hdl;go_wp2_with fail;go_meet
      case rel=>exact⟨r,ps,qs,_,_,rfl,H2⟩
    ·go_wp2_with fail;go_quiet (first|(go_at_call 144;first|exact Calls.quiet_of_same (HBM.out _)|exact Calls.quiet_of_same (HBQ.out _)));obtain⟨bq,hbq⟩:∃b,(q.toList==[48])=b:=⟨_,rfl⟩;have oV:=zM hbq;cases bq
     ·have hq0:dv q≠0:=by
       intro h;exact absurd (oV.out.symm.trans ((iZ HG.out.2.2.2.2 48 (by decide) (by decide)).2 (by rw[h];rfl))) (by decide)
      have hq1:0<dv q:=by have:=fP HG.out.2.2.2.2;omega
      have HQ0:=zM hq1;clear hq0 hq1
      by_cases hps:600<p.size
      ·have q3:decide (600<(p.size:Int))=true:=decide_eq_true (by omega);have q4:=zT hps;have yg:=zM hps;clear hps;go_wp2_with fail;refine bodyPost_ret (eY rfl _ _ w.heap.size 39 #[.string ⟨#[]⟩,.string ⟨#[]⟩] (0,0) _ rfl (by have h:=aN (aN (H1.out.2.1) 0 (.string ⟨#[]⟩)) 1 (.string ⟨#[]⟩);first|exact h|simpa using h) Tryz.underlying39 rfl (by kernel_rfl)) rfl ?_;exact⟨⟨#[]⟩,⟨#[]⟩,7,_,rfl,.inr (.inr ⟨HQ.out,f,Jz.out,.inl ⟨.inr (.inl ⟨BJ.out,by rw[HG.out.2.2.1];exact oV.out,by rw[HG.out.2.1];exact .inl yg.out,rfl⟩),rfl,rfl⟩⟩),((ai H1.out.2.2.1 nq).setCell (Nat.le_refl _) _).setCell (Nat.le_refl _) _⟩
      ·have q3:decide (600<(p.size:Int))=false:=decide_eq_false (by omega);have q4:=zF hps;have yg:=zM hps;clear hps
       by_cases MZ:600<q.size
       ·have q5:decide (600<(q.size:Int))=true:=decide_eq_true (by omega);have q6:=zT MZ;have TM:=zM MZ;clear MZ;go_wp2_with fail;refine bodyPost_ret (eY rfl _ _ w.heap.size 39 #[.string ⟨#[]⟩,.string ⟨#[]⟩] (0,0) _ rfl (by have h:=aN (aN (H1.out.2.1) 0 (.string ⟨#[]⟩)) 1 (.string ⟨#[]⟩);first|exact h|simpa using h) Tryz.underlying39 rfl (by kernel_rfl)) rfl ?_;exact⟨⟨#[]⟩,⟨#[]⟩,7,_,rfl,.inr (.inr ⟨HQ.out,f,Jz.out,.inl ⟨.inr (.inl ⟨BJ.out,by rw[HG.out.2.2.1];exact oV.out,by rw[HG.out.2.2.1];exact .inr TM.out,rfl⟩),rfl,rfl⟩⟩),((ai H1.out.2.2.1 nq).setCell (Nat.le_refl _) _).setCell (Nat.le_refl _) _⟩
       ·have q5:decide (600<(q.size:Int))=false:=decide_eq_false (by omega);have q6:=zF MZ;have TM:=zM MZ;clear MZ;obtain⟨W1,hW1⟩:∃W1,(w1.drewN nq).alloc (.cells #[.bool false,.slice none 0 0,.bool false,.slice none 0 0] 179)=W1:=⟨_,rfl⟩;have hr1:W1.heap[w1.heap.size]?=some (.cells #[.bool false,.slice none 0 0,.bool false,.slice none 0 0] 179 (0,0)):=by rw[←hW1];exact bZ (w1.drewN nq) _
        have hB1:Below w1.heap.size w1 W1:=by rw[←hW1];exact ag (ai (Below.refl _ _) nq) _
        have HW:=zM (zA hr1 hB1);clear hr1 hB1;go_wp2_with fail;refine(rP p _ HG.out.2.2.2.1.1 (by have:=yg.out;omega) HG.out.2.2.2.1.2.2).mono ?_;rintro e w2 ⟨g2,xs,rfl,h1,h2,h3,h4,h5⟩;have H2:=zM (zA h2 (zA h3 (zA h4 (zA (aT HW.out.1 h5) (ah HW.out.2 HW.out.2.size h5)))));clear h1 h2 h3 h4 h5;go_wp2_with fail;refine(rP q _ HG.out.2.2.2.2.1 (by have:=TM.out;omega) HG.out.2.2.2.2.2.2).mono ?_;rintro e w3 ⟨g3,ys,rfl,h1,h2,h3,h4,h5⟩;have H3:=zM (zA h2 (zA h3 (zA h4 (zA (aT H2.out.2.2.2.1 h5) (zA (ah H2.out.2.2.2.2 H2.out.2.2.2.2.size h5) (H2.out.1.below h5))))));clear h1 h2 h3 h4 h5
        have hys:ys≠[]:=by
         intro h;have h1:=H3.out.2.2.1;rw[h]at h1;have h2:=HQ0.out;rw[←h1]at h2;exact absurd h2 (by decide)
        go_wp2_with fail;refine(oU w1.heap.size g2 0 g3 0 false false xs ys _ _ _ _ _ H3.out.2.2.2.1 H3.out.2.2.2.2.2.c H3.out.1.c H2.out.2.1 H3.out.2.1 hys).mono ?_;rintro e w4 ⟨ps,qs,rfl,h1,h2,h3⟩;have hB4:Below w1.heap.size w1 w4:=Below.qj H3.out.2.2.2.2.1 h3 (Nat.le_refl _);have hdq:iH qs=qs:=if_neg h1.2.2.1
        have hlv:QX (dv p) (dv q) ps (iH qs):=by
         rw[hdq,←H2.out.2.2.1,←H3.out.2.2.1];exact⟨h1.2.2.2.1,h1.2.2.2.2⟩
        have hle:=QA hlv (fP HG.out.2.2.2.1) HQ0.out (dW h1.1) (dW (jT h1.2.1));have HM:=zM (show Dt s f g w w4 w1.heap.size ps qs (dv p) (dv q)from⟨h2,h1.1,h1.2.1,hlv,.inl ⟨BJ.out,by rw[HG.out.2.2.1];exact oV.out,by rw[HG.out.2.1,HG.out.2.2.1];rintro(h|h);exact absurd h (by have:=yg.out;omega);exact absurd h (by have:=TM.out;omega),by rw[HG.out.2.1],by rw[HG.out.2.2.1]⟩,Nat.le_trans (qU h1.1 600 (Int.le_trans hle.1 (o5 HG.out.2.2.2.1.2.2 (by have:=yg.out;omega)))) (by omega),Nat.le_trans (qU (jT h1.2.1) 600 (Int.le_trans hle.2 (o5 HG.out.2.2.2.2.2.2 (by have:=TM.out;omega)))) (by omega),HQ0.out,aT H1.out.2.1 hB4,ah H1.out.2.2.1 H1.out.2.2.1.size hB4,H1.out.2.2.2.2,i,bad,H1.out.1.below hB4⟩);clear h1 h2 h3 hB4 hdq hlv hle hys;go_wp2_with fail;go_meet
        case rel=>exact⟨w1.heap.size,ps,qs,_,_,rfl,HM⟩
     ·go_wp2_with fail;go_region;go_wp2_with fail;refine bodyPost_ret (eY rfl _ _ w.heap.size 39 #[.string ⟨#[]⟩,.string ⟨#[]⟩] (0,0) _ rfl (by have h:=aN (aN (H1.out.2.1) 0 (.string ⟨#[]⟩)) 1 (.string ⟨#[]⟩);first|exact h|simpa using h) Tryz.underlying39 rfl (by kernel_rfl)) rfl ?_;exact⟨⟨#[]⟩,⟨#[]⟩,8,_,rfl,.inr (.inr ⟨HQ.out,f,Jz.out,.inl ⟨.inl ⟨BJ.out,by rw[HG.out.2.2.1];exact oV.out,rfl⟩,rfl,rfl⟩⟩),((ai H1.out.2.2.1 (nq+1)).setCell (Nat.le_refl _) _).setCell (Nat.le_refl _) _⟩
   case rest=>
    obtain⟨r,ps,qs,x,y,rfl,HM⟩:=hcut;obtain⟨hR,wp,wq,hlv,hfv,l1,l2,hy,hz,hb,hlt,i2,aqF,hF⟩:=HM.out;obtain⟨ng,ZE⟩:∃b,f.neg=b:=⟨_,rfl⟩;obtain⟨b3,_,_,_,_,_,_,_,_⟩:=hF.all;rw[ZE]at b3;have HNG:=zM ZE;have HE:=zM (Rx wp hlv hy);have HL:=zM (zA l1 (zA l2 (zA wp (zA wq hb))));have HV:=zM (zA hlv hfv);have HR:=zM (zA hR (zA hz hlt));clear hR wp wq hlv hfv l1 l2 hy hz hb hlt hF ZE a3 a4 a5 a6 a7 a8 a9 a10 af c1 hz0 hz1 hf0 hf1 HM;cases ng
    ·go_wp2_with fail;refine(yS r false ps qs _ HR.out.1 HL.out.2.2.1 HL.out.2.2.2.1 HL.out.1 HL.out.2.1).mono ?_;rintro e w2 ⟨t,d,rfl,h1,h2,h3,h4,h5⟩;have hz:=aT HR.out.2.1 h5;have hbb:=ah HL.out.2.2.2.2 HL.out.2.2.2.2.size h5;have HT:=zM (show Ib x y t d from⟨h1,h3,by rw[h2];exact HV.out.1.1,by rw[h4];exact HV.out.1.2⟩);have hsg:signed (false&& !ps.isEmpty) t=signed (f.neg&&decide (x≠0)) t:=by rw[HNG.out];rfl
     rw[hsg];obtain⟨n,hn⟩:∃n,signed (f.neg&&decide (x≠0)) t=n:=⟨_,rfl⟩;rw[hn];have HN:=zM hn;clear h1 h2 h3 h4 h5 hsg hn
     by_cases hbig:600<t.size∨600<d.size
     ·have Wp:BG n d t= .tuple #[.agg #[.string ⟨#[]⟩,.string ⟨#[]⟩],.int .i64 7]:=if_pos hbig;rw[Wp];have hzz:(w2.alloc (.cells #[.string ⟨#[]⟩,.string ⟨#[]⟩] 39)).heap[w.heap.size]?=some (.cells #[.string ⟨#[]⟩,.string ⟨#[]⟩] 39 (0,0)):=aT hz (ag (Below.refl _ _) _);have hz0:(w2.alloc (.cells #[.string ⟨#[]⟩,.string ⟨#[]⟩] 39)).cell? ⟨w.heap.size,0,none⟩=some (.string ⟨#[]⟩):=(aj hzz 0).trans rfl;have hz1:(w2.alloc (.cells #[.string ⟨#[]⟩,.string ⟨#[]⟩] 39)).cell? ⟨w.heap.size,1,none⟩=some (.string ⟨#[]⟩):=(aj hzz 1).trans rfl;have hf0:=au hzz 0;have hf1:=au hzz 1;have HZ:=zM (zA hzz (zA (ah hbb hbb.size (ag (Below.refl _ _) (.cells #[.string ⟨#[]⟩,.string ⟨#[]⟩] 39))) hbig));clear hzz hz hbb hbig Wp;go_wp2_with fail;refine bodyPost_ret (eY rfl _ _ w.heap.size 39 #[.string ⟨#[]⟩,.string ⟨#[]⟩] (0,0) _ rfl (by have h:=aN (aN (HZ.out.1) 0 (.string ⟨#[]⟩)) 1 (.string ⟨#[]⟩);first|exact h|simpa using h) Tryz.underlying39 rfl (by kernel_rfl)) rfl ?_;exact⟨⟨#[]⟩,⟨#[]⟩,7,_,rfl,.inr (.inr ⟨HQ.out,f,Jz.out,.inr ⟨x,y,HV.out.2,t,d,HT.out,.inl ⟨HZ.out.2.2,rfl,rfl,rfl⟩⟩⟩),(HZ.out.2.1.setCell (Nat.le_refl _) _).setCell (Nat.le_refl _) _⟩
     ·have Wp:BG n d t= .tuple #[.agg #[.string n,.string d],.int .i64 0]:=if_neg hbig;rw[Wp];have hzz:(w2.alloc (.cells #[.string n,.string d] 39)).heap[w.heap.size]?=some (.cells #[.string ⟨#[]⟩,.string ⟨#[]⟩] 39 (0,0)):=aT hz (ag (Below.refl _ _) _);have hz0:(w2.alloc (.cells #[.string n,.string d] 39)).cell? ⟨w.heap.size,0,none⟩=some (.string ⟨#[]⟩):=(aj hzz 0).trans rfl;have hz1:(w2.alloc (.cells #[.string n,.string d] 39)).cell? ⟨w.heap.size,1,none⟩=some (.string ⟨#[]⟩):=(aj hzz 1).trans rfl;have hf0:=au hzz 0;have hf1:=au hzz 1;have HZ:=zM (zA hzz (zA (ah hbb hbb.size (ag (Below.refl _ _) (.cells #[.string n,.string d] 39))) hbig));clear hzz hz hbb hbig Wp;go_wp2_with fail;refine bodyPost_ret (eY rfl _ _ w.heap.size 39 #[.string n,.string d] (0,0) _ rfl (by have h:=aN (aN (HZ.out.1) 0 (.string n)) 1 (.string d);first|exact h|simpa using h) Tryz.underlying39 rfl (by kernel_rfl)) rfl ?_;exact⟨n,d,0,_,rfl,.inr (.inr ⟨HQ.out,f,Jz.out,.inr ⟨x,y,HV.out.2,t,d,HT.out,.inr ⟨HZ.out.2.2,HN.out.symm,rfl,rfl⟩⟩⟩),(HZ.out.2.1.setCell (Nat.le_refl _) _).setCell (Nat.le_refl _) _⟩
    ·obtain⟨v0,v1,v2,v3,hv⟩:=HR.out.1.four;go_wp2_with fail;refine(LQ r r false ps qs _ _ _ _ _ hv HR.out.1 HL.out.2.2.1 HL.out.2.2.2.1 (by intro h;cases h)).mono ?_;rintro e w3 ⟨rfl,h1,h2⟩;have hz3:=(h2.block w.heap.size (dV HR.out.2.1) (by have:=HR.out.2.2;omega)).trans HR.out.2.1;have H3:=zM (zA h1 (zA hz3 (Below.qj HL.out.2.2.2.2 h2 (Nat.le_of_lt HR.out.2.2))));clear h1 h2 hz3 hv;go_wp2_with fail;refine(yS r (!false&& !ps.isEmpty) ps (iH qs) _ H3.out.1 HL.out.2.2.1 (jT HL.out.2.2.2.1) HL.out.1 (by rw[F7];exact HL.out.2.1)).mono ?_;rintro e w2 ⟨t,d,rfl,h1,h2,h3,h4,h5⟩;rw[F7]at h4;have hz:=aT H3.out.2.1 h5;have hbb:=ah H3.out.2.2 H3.out.2.2.size h5;have HT:=zM (show Ib x y t d from⟨h1,h3,by rw[h2];exact HV.out.1.1,by rw[h4];exact HV.out.1.2⟩);have hsg:signed ((!false&& !ps.isEmpty)&& !ps.isEmpty) t=signed (f.neg&&decide (x≠0)) t:=by rw[HNG.out,←HE.out];cases ps.isEmpty<;>rfl
     rw[hsg];obtain⟨n,hn⟩:∃n,signed (f.neg&&decide (x≠0)) t=n:=⟨_,rfl⟩;rw[hn];have HN:=zM hn;clear h1 h2 h3 h4 h5 hsg hn
     by_cases hbig:600<t.size∨600<d.size
     ·have Wp:BG n d t= .tuple #[.agg #[.string ⟨#[]⟩,.string ⟨#[]⟩],.int .i64 7]:=if_pos hbig;rw[Wp];have hzz:(w2.alloc (.cells #[.string ⟨#[]⟩,.string ⟨#[]⟩] 39)).heap[w.heap.size]?=some (.cells #[.string ⟨#[]⟩,.string ⟨#[]⟩] 39 (0,0)):=aT hz (ag (Below.refl _ _) _);have hz0:(w2.alloc (.cells #[.string ⟨#[]⟩,.string ⟨#[]⟩] 39)).cell? ⟨w.heap.size,0,none⟩=some (.string ⟨#[]⟩):=(aj hzz 0).trans rfl;have hz1:(w2.alloc (.cells #[.string ⟨#[]⟩,.string ⟨#[]⟩] 39)).cell? ⟨w.heap.size,1,none⟩=some (.string ⟨#[]⟩):=(aj hzz 1).trans rfl;have hf0:=au hzz 0;have hf1:=au hzz 1;have HZ:=zM (zA hzz (zA (ah hbb hbb.size (ag (Below.refl _ _) (.cells #[.string ⟨#[]⟩,.string ⟨#[]⟩] 39))) hbig));clear hzz hz hbb hbig Wp;go_wp2_with fail;refine bodyPost_ret (eY rfl _ _ w.heap.size 39 #[.string ⟨#[]⟩,.string ⟨#[]⟩] (0,0) _ rfl (by have h:=aN (aN (HZ.out.1) 0 (.string ⟨#[]⟩)) 1 (.string ⟨#[]⟩);first|exact h|simpa using h) Tryz.underlying39 rfl (by kernel_rfl)) rfl ?_;exact⟨⟨#[]⟩,⟨#[]⟩,7,_,rfl,.inr (.inr ⟨HQ.out,f,Jz.out,.inr ⟨x,y,HV.out.2,t,d,HT.out,.inl ⟨HZ.out.2.2,rfl,rfl,rfl⟩⟩⟩),(HZ.out.2.1.setCell (Nat.le_refl _) _).setCell (Nat.le_refl _) _⟩
     ·have Wp:BG n d t= .tuple #[.agg #[.string n,.string d],.int .i64 0]:=if_neg hbig;rw[Wp];have hzz:(w2.alloc (.cells #[.string n,.string d] 39)).heap[w.heap.size]?=some (.cells #[.string ⟨#[]⟩,.string ⟨#[]⟩] 39 (0,0)):=aT hz (ag (Below.refl _ _) _);have hz0:(w2.alloc (.cells #[.string n,.string d] 39)).cell? ⟨w.heap.size,0,none⟩=some (.string ⟨#[]⟩):=(aj hzz 0).trans rfl;have hz1:(w2.alloc (.cells #[.string n,.string d] 39)).cell? ⟨w.heap.size,1,none⟩=some (.string ⟨#[]⟩):=(aj hzz 1).trans rfl;have hf0:=au hzz 0;have hf1:=au hzz 1;have HZ:=zM (zA hzz (zA (ah hbb hbb.size (ag (Below.refl _ _) (.cells #[.string n,.string d] 39))) hbig));clear hzz hz hbb hbig Wp;go_wp2_with fail;refine bodyPost_ret (eY rfl _ _ w.heap.size 39 #[.string n,.string d] (0,0) _ rfl (by have h:=aN (aN (HZ.out.1) 0 (.string n)) 1 (.string d);first|exact h|simpa using h) Tryz.underlying39 rfl (by kernel_rfl)) rfl ?_;exact⟨n,d,0,_,rfl,.inr (.inr ⟨HQ.out,f,Jz.out,.inr ⟨x,y,HV.out.2,t,d,HT.out,.inr ⟨HZ.out.2.2,HN.out.symm,rfl,rfl⟩⟩⟩),(HZ.out.2.1.setCell (Nat.le_refl _) _).setCell (Nat.le_refl _) _⟩
theorem IX {t:ByteArray}(h:Canon t):minus t=false:=by
 unfold minus;refine decide_eq_false ?_;rintro⟨h1,h2⟩;have h3:=(C9 t).1 h.2.2 0 h1;rw[show((0:Nat):Int)=0 from rfl,h2]at h3;exact absurd h3.1 (by decide)
theorem IY (t:ByteArray):minus (signed true t)=true∧body (signed true t)=t:=by
 have hd:(signed true t).data.toList=45::t.data.toList:=by simp[signed,ByteArray.data_append]
 have hs:=bV (signed true t);rw[hd,List.length_cons,bV]at hs
 have hb:bt (signed true t) 0=45:=by
  rw[←gW];simp[bytesOf,hd,rd]
 have hm:minus (signed true t)=true:=by
  unfold minus;exact decide_eq_true ⟨by omega,hb⟩
 refine⟨hm,?_⟩;unfold body;rw[if_pos hm];refine ByteArray.ext (Array.ext' ?_);rw[ByteArray.data_extract,Array.toList_extract,List.extract,hd,←hs];simp[bV];exact List.take_of_length_le (by rw[bV];omega)
theorem aa1 {x y a b:Int}(ha:0≤a)(hb:0≤b)(hy:0<y)(h1:a*ja x y=x)(h2:b*ja x y=y):ja a b=1:=by
 have hg:=qy (a:=x) hy;obtain⟨g,hgg⟩:∃g,ja x y=g:=⟨_,rfl⟩;rw[hgg]at h1 h2 hg;have e1:x.toNat=a.toNat *g.toNat:=by rw[←h1,Int.toNat_mul ha (Int.le_of_lt hg)]
 have e2:y.toNat=b.toNat *g.toNat:=by rw[←h2,Int.toNat_mul hb (Int.le_of_lt hg)]
 have e3:Nat.gcd x.toNat y.toNat=g.toNat:=by
  have:((Nat.gcd x.toNat y.toNat:Nat):Int)=g:=hgg;omega
 rw[e1,e2,Nat.gcd_mul_right]at e3;have e4:Nat.gcd a.toNat b.toNat=1:=Nat.eq_of_mul_eq_mul_right (show 0<g.toNat by omega) (by rw[e3,Nat.one_mul])
 show((Nat.gcd a.toNat b.toNat:Nat):Int)=1
 rw[e4];rfl
theorem PO {neg:Bool}{x y:Int}{t d:ByteArray}(h:Ib x y t d)(hy:0<y)(ht:t.size≤600)(hd:d.size≤600):kL (signed (neg&&decide (x≠0)) t) d:=by
 obtain⟨ct,cd,e1,e2⟩:=h;have hg:=qy (a:=x) hy
 have hd0:dv d≠0:=by
  intro h;rw[h,Int.zero_mul]at e2;omega
 have hl:=aa1 (fP ct) (fP cd) hy e1 e2;have nt:lU t:=⟨ct.1,ht,ct.2⟩;have nd:lU d:=⟨cd.1,hd,cd.2⟩;obtain⟨sg,hsg⟩:∃b,(neg&&decide (x≠0))=b:=⟨_,rfl⟩;rw[hsg];cases sg
 ·have hm:=IX ct
  have hb:body (signed false t)=t:=by
   show body t=t
   unfold body;rw[if_neg (by rw[hm];decide)]
  refine⟨⟨?_,?_⟩,nd,hd0,?_⟩
  ·rw[hb];exact nt
  ·intro h;rw[show signed false t=t from rfl,hm]at h;cases h
  ·rw[hb];exact hl
 ·have hb:=(IY t).2
  have hx:x≠0:=by
   rw[Bool.and_eq_true]at hsg;exact of_decide_eq_true hsg.2
  refine⟨⟨?_,?_⟩,nd,hd0,?_⟩
  ·rw[hb];exact nt
  ·intro _ h;rw[hb]at h;rw[h,Int.zero_mul]at e1;exact hx e1.symm
  ·rw[hb];exact hl
theorem Gt {s:ByteArray}{f:Fm}{x y:Int}(h:FC f x y)(hg:Good s f):0<y:=by
 rcases h with⟨_,h1,_,_,h2⟩|⟨_,k,_,_,_,h2⟩
 ·have hc:=(kV f.den hg.2.2.2.2.2.1).1;have h3:=fP hc
  have h4:dv (eP f.den)≠0:=by
   intro h;exact absurd (h1.symm.trans ((iZ hc 48 (by decide) (by decide)).2 (by rw[h];rfl))) (by decide)
  omega
 ·rw[h2];exact Int.pow_pos (by omega)
theorem Bv {s n d:ByteArray}{er:Int}(h:qZ s n d er)(he:er=0):kL n d:=by
 rcases h with⟨_,_,_,h⟩|⟨_,_,_,_,h⟩|⟨hs,f,hf,h|⟨x,y,hv,t,d2,hl,h|⟨hz,hn,hd,_⟩⟩⟩
 ·exact absurd (h.symm.trans he) (by decide)
 ·exact absurd (h.symm.trans he) (by decide)
 ·rcases h.1 with h|h|h
  ·exact absurd (h.2.2.symm.trans he) (by decide)
  ·exact absurd (h.2.2.2.symm.trans he) (by decide)
  ·exact absurd (h.2.2.symm.trans he) (by decide)
 ·exact absurd (h.2.2.2.symm.trans he) (by decide)
 ·rw[hn,hd];exact PO hl (Gt hv (su hf hs)) (by omega) (by omega)
def lW (s n d:ByteArray)(er:Int):Prop:=∃e0,qZ s n d e0∧((e0≠0∧er=e0)∨(e0=0∧((mf n d).toList==s.toList)=false∧er=3)∨(e0=0∧((mf n d).toList==s.toList)=true∧er=0))
theorem DW (s:ByteArray)(w:World):
  Calls Tryz.prog 74 #[.string s] w fun e w'=>∃n d er,e= .returned (.tuple #[.agg #[.string n,.string d],yH er])∧lW s n d er∧Below w.heap.size w w':=by
 have hb0:Below w.heap.size w (w.alloc (.cells #[.string ⟨#[]⟩,.string ⟨#[]⟩] 39)):=ag (Below.refl _ _) _;have H0:=zM (zA hb0 (bZ w (.cells #[.string ⟨#[]⟩,.string ⟨#[]⟩] 39)));clear hb0;go_enter Tryz.func74,Tryz.ntmps74;go_wp2_with fail;refine(Fa s _).mono ?_;rintro e w1 ⟨n,d,er,pos,rfl,h1,h2⟩;have hz:=aT (aT H0.out.2 h2) (ag (Below.refl w1.heap.size w1) (.cells #[.string n,.string d] 39));have hb:=ah (ah H0.out.1 H0.out.1.size h2) (ah H0.out.1 H0.out.1.size h2).size (ag (Below.refl w1.heap.size w1) (.cells #[.string n,.string d] 39));have hn1:=bZ w1 (.cells #[.string n,.string d] 39);have H1:=zM (zA h1 (zA hz (zA hb hn1)));obtain⟨W2,hW2⟩:∃W2,w1.alloc (.cells #[.string n,.string d] 39)=W2:=⟨_,rfl⟩;rw[hW2]at hz hb hn1 H1;have hz0:W2.cell? ⟨w.heap.size,0,none⟩=some (.string ⟨#[]⟩):=(aj hz 0).trans rfl;have hz1:W2.cell? ⟨w.heap.size,1,none⟩=some (.string ⟨#[]⟩):=(aj hz 1).trans rfl;have hf0:=au hz 0;have hf1:=au hz 1;have hy0:W2.cell? ⟨w1.heap.size,0,none⟩=some (.string n):=(aj hn1 0).trans rfl;have hy1:W2.cell? ⟨w1.heap.size,1,none⟩=some (.string d):=(aj hn1 1).trans rfl;clear h1 h2 hz hb hn1
 by_cases he:er=0
 ·have HE:=zM he;subst he;have HR:=zM (Bv H1.out.1 rfl);go_wp2_with fail;refine(xK n d _ HR.out).mono ?_;rintro e w3 ⟨rfl,h1⟩;have hz:=aT H1.out.2.1 h1;have hn1:=aT H1.out.2.2.2 h1;have hb:=ah H1.out.2.2.1 H1.out.2.2.1.size h1;have hz0:w3.cell? ⟨w.heap.size,0,none⟩=some (.string ⟨#[]⟩):=(aj hz 0).trans rfl;have hz1:w3.cell? ⟨w.heap.size,1,none⟩=some (.string ⟨#[]⟩):=(aj hz 1).trans rfl;have hf0:=au hz 0;have hf1:=au hz 1;have hy0:w3.cell? ⟨w1.heap.size,0,none⟩=some (.string n):=(aj hn1 0).trans rfl;have hy1:w3.cell? ⟨w1.heap.size,1,none⟩=some (.string d):=(aj hn1 1).trans rfl;have H3:=zM (zA hz hb);clear h1 hz hb hn1;obtain⟨R,hRR⟩:∃R,mf n d=R:=⟨_,rfl⟩;rw[hRR];obtain⟨b,hbb⟩:∃b,(R.toList==s.toList)=b:=⟨_,rfl⟩;have HB:=zM (show((mf n d).toList==s.toList)=b by rw[hRR];exact hbb);clear hRR;cases b
  ·go_wp2_with fail;refine bodyPost_ret (dw rfl _ _ w.heap.size 39 #[.string n,.string d] (0,0) _ rfl (by have h:=aN (aN (H3.out.1) 0 (.string n)) 1 (.string d);first|exact h|simpa using h) Tryz.underlying39 rfl (by kernel_rfl)) rfl ?_;exact⟨n,d,3,rfl,⟨0,H1.out.1,.inr (.inl ⟨rfl,HB.out,rfl⟩)⟩,((H3.out.2).setCell (Nat.le_refl _) _).setCell (Nat.le_refl _) _⟩
  ·go_wp2_with fail;refine bodyPost_ret (dw rfl _ _ w.heap.size 39 #[.string n,.string d] (0,0) _ rfl (by have h:=aN (aN (H3.out.1) 0 (.string n)) 1 (.string d);first|exact h|simpa using h) Tryz.underlying39 rfl (by kernel_rfl)) rfl ?_;exact⟨n,d,0,rfl,⟨0,H1.out.1,.inr (.inr ⟨rfl,HB.out,rfl⟩)⟩,((H3.out.2).setCell (Nat.le_refl _) _).setCell (Nat.le_refl _) _⟩
 ·have q0:(er !=0)=true:=bne_iff_ne.mpr he;have HE:=zM he;clear he;go_wp2_with fail;refine bodyPost_ret (dw rfl _ _ w.heap.size 39 #[.string n,.string d] (0,0) _ rfl (by have h:=aN (aN (H1.out.2.1) 0 (.string n)) 1 (.string d);first|exact h|simpa using h) Tryz.underlying39 rfl (by kernel_rfl)) rfl ?_;exact⟨n,d,er,by rw[show yH er= .iface 83 (.agg #[.int .i64 er])from if_neg HE.out];rfl,⟨er,H1.out.1,.inl ⟨HE.out,rfl⟩⟩,((H1.out.2.2.1).setCell (Nat.le_refl _) _).setCell (Nat.le_refl _) _⟩
end Go.Proofs.YthbdjmopolpjmaaGreatDoor.C
namespace Go.Proofs.YthbdjmopolpjmaaGreatDoor.C
open Go.RowKit Go.Proofs.YthbdjmopolpjmaaGreatDoorW.PrintWords Go.Proofs.YthbdjmopolpjmaaGreatDoorW.PrintLast Go.Proofs.YthbdjmopolpjmaaGreatDoorW.PrintMore Go.Proofs.YthbdjmopolpjmaaGreatDoor.F Go.Proofs.YthbdjmopolpjmaaGreatDoor.M
theorem XC {x y:Int}{t d t2 d2:ByteArray}(h:Ib x y t d)(h2:Ib x y t2 d2)(hy:0<y):t=t2∧d=d2:=by
 have hg:=qy (a:=x) hy;refine⟨zH h.1 h2.1 ?_,zH h.2.1 h2.2.1 ?_⟩
 ·exact Int.eq_of_mul_eq_mul_right (by omega) (h.2.2.1.trans h2.2.2.1.symm)
 ·exact Int.eq_of_mul_eq_mul_right (by omega) (h.2.2.2.trans h2.2.2.2.symm)
theorem Yn {neg:Bool}{x y:Int}{n d n2 d2:ByteArray}{e e2:Int}(h:Ik neg x y n d e)(h2:Ik neg x y n2 d2 e2)(hy:0<y):n=n2∧d=d2∧e=e2:=by
 obtain⟨t,b,hl,h⟩:=h;obtain⟨t2,b2,hl2,h2⟩:=h2;obtain⟨rfl,rfl⟩:=XC hl hl2 hy;rcases h with⟨h0,rfl,rfl,rfl⟩|⟨h0,rfl,rfl,rfl⟩<;>rcases h2 with⟨h1,rfl,rfl,rfl⟩|⟨h1,rfl,rfl,rfl⟩
 ·exact⟨rfl,rfl,rfl⟩
 ·exact absurd h0 h1
 ·exact absurd h1 h0
 ·exact⟨rfl,rfl,rfl⟩
theorem F6 {f:Fm}{k k2:Int}(h:wF f k)(h2:wF f k2):k=k2:=h.2.2.trans h2.2.2.symm
theorem RF {f:Fm}{x y x2 y2:Int}(h:FC f x y)(h2:FC f x2 y2):x=x2∧y=y2:=by
 rcases h with⟨hf,_,_,hx,hy⟩|⟨hf,k,hk,_,hx,hy⟩<;>rcases h2 with⟨hf2,_,_,hx2,hy2⟩|⟨hf2,k2,hk2,_,hx2,hy2⟩
 ·exact⟨hx.trans hx2.symm,hy.trans hy2.symm⟩
 ·exact absurd (hf.symm.trans hf2) (by decide)
 ·exact absurd (hf2.symm.trans hf) (by decide)
 ·obtain rfl:=F6 hk hk2;exact⟨hx.trans hx2.symm,hy.trans hy2.symm⟩
theorem Oe {f:Fm}{e e2:Int}(h:Hm f e)(h2:Hm f e2):e=e2:=by
 rcases h with⟨hf,hz,he⟩|⟨hf,hz,_,he⟩|⟨hf,_,he⟩<;>rcases h2 with⟨hf2,hz2,he2⟩|⟨hf2,hz2,_,he2⟩|⟨hf2,_,he2⟩
 ·exact he.trans he2.symm
 ·exact absurd (hz.symm.trans hz2) (by decide)
 ·exact absurd (hf.symm.trans hf2) (by decide)
 ·exact absurd (hz2.symm.trans hz) (by decide)
 ·exact he.trans he2.symm
 ·exact absurd (hf.symm.trans hf2) (by decide)
 ·exact absurd (hf2.symm.trans hf) (by decide)
 ·exact absurd (hf2.symm.trans hf) (by decide)
 ·exact he.trans he2.symm
theorem DX {f:Fm}{e x y:Int}(h:Hm f e)(h2:FC f x y):False:=by
 rcases h with⟨hf,hz,he⟩|⟨hf,hz,hb,he⟩|⟨hf,hn,he⟩<;>rcases h2 with⟨hf2,hz2,hb2,_⟩|⟨hf2,k,hk,hb2,_⟩
 ·exact absurd (hz.symm.trans hz2) (by decide)
 ·exact absurd (hf.symm.trans hf2) (by decide)
 ·exact hb2 hb
 ·exact absurd (hf.symm.trans hf2) (by decide)
 ·exact absurd (hf2.symm.trans hf) (by decide)
 ·exact hb2 (hn k hk)
theorem SN {s n d n2 d2:ByteArray}{e e2:Int}(h:qZ s n d e)(h2:qZ s n2 d2 e2):n=n2∧d=d2∧e=e2:=by
 rcases h with⟨hs,hn,hd,he⟩|⟨hs,hf,hn,hd,he⟩|⟨hs,f,hf,h⟩<;>rcases h2 with⟨hs2,hn2,hd2,he2⟩|⟨hs2,hf2,hn2,hd2,he2⟩|⟨hs2,f2,hf2,h2⟩
 ·exact⟨hn.trans hn2.symm,hd.trans hd2.symm,he.trans he2.symm⟩
 ·omega
 ·omega
 ·omega
 ·exact⟨hn.trans hn2.symm,hd.trans hd2.symm,he.trans he2.symm⟩
 ·exact absurd (hf.symm.trans hf2) (by simp)
 ·omega
 ·exact absurd (hf2.symm.trans hf) (by simp)
 ·obtain rfl:f=f2:=Option.some.inj (hf.symm.trans hf2);rcases h with⟨h,hn,hd⟩|⟨x,y,hv,ht⟩<;>rcases h2 with⟨h2,hn2,hd2⟩|⟨x2,y2,hv2,ht2⟩
  ·exact⟨hn.trans hn2.symm,hd.trans hd2.symm,Oe h h2⟩
  ·exact(DX h hv2).elim
  ·exact(DX h2 hv).elim
  ·obtain⟨rfl,rfl⟩:=RF hv hv2;exact Yn ht ht2 (Gt hv (su hf hs))
theorem Gn {s n d n2 d2:ByteArray}{e e2:Int}(h:lW s n d e)(h2:lW s n2 d2 e2):n=n2∧d=d2∧e=e2:=by
 obtain⟨a,hp,h⟩:=h;obtain⟨b,hp2,h2⟩:=h2;obtain⟨rfl,rfl,rfl⟩:=SN hp hp2;refine⟨rfl,rfl,?_⟩;rcases h with⟨h0,he⟩|⟨h0,hb,he⟩|⟨h0,hb,he⟩<;>rcases h2 with⟨k0,ke⟩|⟨k0,kb,ke⟩|⟨k0,kb,ke⟩
 ·exact he.trans ke.symm
 ·exact absurd k0 h0
 ·exact absurd k0 h0
 ·exact absurd h0 k0
 ·exact he.trans ke.symm
 ·exact absurd (hb.symm.trans kb) (by decide)
 ·exact absurd h0 k0
 ·exact absurd (kb.symm.trans hb) (by decide)
 ·exact he.trans ke.symm
theorem ae3 (s:ByteArray)(hs:s.size≤1000000):∀(d i:Nat),i+d=s.size→Ev (fun k=>df.l0 k s (i:Int)) (eG s i:Int):=by
 intro d
 induction d with
 |zero=>
  intro i hi;rw[o6 s i (.inl (by omega))];refine Ev.step (f:=fun _=>some (i:Int)) (fun k=>?_) (Ev.now _);simp only[df.l0];rw[if_neg (by omega)]
 |succ d ih=>
  intro i hi
  by_cases h1:bt s (i:Int)≥48
  ·by_cases h2:bt s (i:Int)≤57
   ·rw[GV s i (by omega) (decide_eq_true ⟨h1,h2⟩)];refine Ev.step (f:=fun k=>df.l0 k s ((i+1:Nat):Int)) (fun k=>?_) (ih (i+1) (by omega));simp only[df.l0];rw[if_pos (by omega),if_pos (by omega),if_pos h1,if_pos h2,fD (by omega) (by omega)];rfl
   ·rw[o6 s i (.inr (decide_eq_false (fun h=>h2 h.2)))];refine Ev.step (f:=fun _=>some (i:Int)) (fun k=>?_) (Ev.now _);simp only[df.l0];rw[if_pos (by omega),if_pos (by omega),if_pos h1,if_neg h2]
  ·rw[o6 s i (.inr (decide_eq_false (fun h=>h1 h.1)))];refine Ev.step (f:=fun _=>some (i:Int)) (fun k=>?_) (Ev.now _);simp only[df.l0];rw[if_pos (by omega),if_pos (by omega),if_neg h1]
theorem Ti (s:ByteArray)(i:Nat)(hs:s.size≤1000000)(hi:i≤s.size):Ev (fun k=>df.f k s (i:Int)) (eG s i:Int):=
 ae3 s hs (s.size- i) i (by omega)
theorem yG {s:ByteArray}(h:0<s.size):∃a l,s.data.toList=a::l∧bt s 0=(a.toNat:Int):=by
 have h1:=bV s;cases hd:s.data.toList with
 |nil=>rw[hd]at h1;simp at h1;omega
 |cons a l=>
  refine⟨a,l,rfl,?_⟩;rw[←gW];simp[bytesOf,hd,rd]
theorem DD {s:ByteArray}{l:List UInt8}(h:s.data.toList=48::l):eP s=eP ⟨l.toArray⟩:=by
 have:lS s=lS ⟨l.toArray⟩:=by
  unfold lS;rw[h]
  congr 2
 unfold eP;rw[this]
theorem AV {s:ByteArray}{a:UInt8}{l:List UInt8}(h:s.data.toList=a::l)(ha:a≠48):eP s=s:=by
 have h1:Lib.trimLeftB s.data.toList 48=s.data.toList:=by
  rw[h];unfold Lib.trimLeftB;rw[List.dropWhile_cons,if_neg (by simpa using ha)]
 have h2:lS s=s:=by
  unfold lS;rw[h1]
 unfold eP;rw[h2,if_neg];rw[ByteArray.toList_eq,h];simp
theorem Zf:∀(d:Nat) (s:ByteArray),s.size=d+1→Ev (fun k=>bQ.l0 k s) (eP s):=by
 intro d
 induction d with
 |zero=>
  intro s hs;obtain⟨a,l,hl,hb⟩:=yG (show 0<s.size by omega);have hsz:=bV s;rw[hl,List.length_cons]at hsz;have hl0:l=[]:=List.eq_nil_of_length_eq_zero (by omega);subst hl0
  have e:eP s=s:=by
   by_cases ha:a=48
   ·subst ha;rw[DD hl,show eP ⟨([]:List UInt8).toArray⟩=⟨#[48]⟩from zG _ (by rw[ByteArray.toList_eq];rfl)];exact(ByteArray.ext (Array.ext' hl.symm):(⟨#[48]⟩:ByteArray)=s)
   ·exact AV hl ha
  rw[e];refine Ev.step (f:=fun _=>some s) (fun k=>?_) (Ev.now _);simp only[bQ.l0];rw[if_neg (by omega)]
 |succ d ih=>
  intro s hs;obtain⟨a,l,hl,hb⟩:=yG (show 0<s.size by omega)
  by_cases h1:bt s 0=48
  ·have ha:a=48:=UInt8.toNat_inj.1 (by have h4:a.toNat=48:=(by omega);exact h4);subst ha
   have e:s.extract 1 s.size=⟨l.toArray⟩:=by
    refine ByteArray.ext (Array.ext' ?_);have hsz:=bV s;rw[hl,List.length_cons]at hsz;rw[ByteArray.data_extract,Array.toList_extract,List.extract,hl];simp;exact List.take_of_length_le (by omega)
   rw[DD hl,←e];refine Ev.step (f:=fun k=>bQ.l0 k (s.extract 1 s.size)) (fun k=>?_) (ih _ (by rw[ByteArray.size_extract];omega));simp only[bQ.l0];rw[if_pos (by omega),if_pos (by omega),if_pos h1,if_pos (by omega)]
  ·have ha:a≠48:=by
    intro h;subst h;exact h1 hb
   rw[AV hl ha];refine Ev.step (f:=fun _=>some s) (fun k=>?_) (Ev.now _);simp only[bQ.l0];rw[if_pos (by omega),if_pos (by omega),if_neg h1]
theorem NT (s:ByteArray)(h:0<s.size):Ev (fun k=>bQ.f k s) (eP s):=Zf (s.size- 1) s (by omega)
theorem NS (s:ByteArray)(h:s.size=0):Ev (fun k=>bQ.f k s) s:=by
 refine Ev.step (f:=fun _=>some s) (fun k=>?_) (Ev.now _);simp only[bQ.f,bQ.l0];rw[if_neg (by omega)]
theorem Io (c:UInt8)(s:ByteArray)(i:Int):(c==(bt s i).toNat.toUInt8)=(bt s i==(c.toNat:Int)):=by
 have h:=yA s i;have hc:=c.toNat_lt
 have hb:((bt s i).toNat.toUInt8).toNat=(bt s i).toNat:=by
  rw[Nat.toUInt8,UInt8.toNat_ofNat'];omega
 by_cases e:bt s i=(c.toNat:Int)
 ·rw[beq_iff_eq.mpr e];refine beq_iff_eq.mpr (UInt8.toNat_inj.1 ?_);rw[hb];omega
 ·rw[beq_eq_false_iff_ne.mpr e];refine beq_eq_false_iff_ne.mpr (fun e2=>e ?_);have:=congrArg UInt8.toNat e2;rw[hb]at this;omega
theorem ry (c:UInt8)(s:ByteArray)(i:Nat):hits ⟨#[c]⟩ s i=(decide (i<s.size)&&(bt s (i:Int)==(c.toNat:Int))):=by
 unfold hits
 congr 1
 rw[←Io]
 show decide (0≤Lib.indexByte [c] _)=_
 cases h:(c==(bt s (i:Int)).toNat.toUInt8)
 ·simp[Lib.indexByte,h]
 ·simp[Lib.indexByte,h]
theorem yK (c d:UInt8)(s:ByteArray)(i:Nat):hits ⟨#[c,d]⟩ s i=(decide (i<s.size)&&((bt s (i:Int)==(c.toNat:Int))||(bt s (i:Int)==(d.toNat:Int)))):=by
 unfold hits
 congr 1
 rw[←Io,←Io]
 show decide (0≤Lib.indexByte [c,d] _)=_
 cases h:(c==(bt s (i:Int)).toNat.toUInt8)<;>cases h2:(d==(bt s (i:Int)).toNat.toUInt8)
 ·simp[Lib.indexByte,h,h2]
 ·simp[Lib.indexByte,h,h2]
 ·simp[Lib.indexByte,h,h2]
 ·simp[Lib.indexByte,h,h2]
theorem Fh (neg:Bool)(n d:ByteArray)(hn:n.size≤1000000):Ev (fun k=>bH.f k neg n d) (if 600<n.size∨600<d.size then(⟨#[]⟩,⟨#[]⟩,7)else(signed neg n,d,0)):=by
 by_cases h1:600<n.size
 ·rw[if_pos (.inl h1)];refine Ev.congr (f:=fun k=>bH.j0 k true neg n d) (fun k=>?_) (Ev.step (f:=fun _=>some ((⟨#[]⟩:ByteArray),(⟨#[]⟩:ByteArray),7)) (fun k=>?_) (Ev.now _))
  ·unfold bH.f;rw[if_pos (by omega)]
  ·simp only[bH.j0];rw[if_pos trivial]
 ·by_cases h2:600<d.size
  ·rw[if_pos (.inr h2)];refine Ev.congr (f:=fun k=>bH.j0 k true neg n d) (fun k=>?_) (Ev.step (f:=fun _=>some ((⟨#[]⟩:ByteArray),(⟨#[]⟩:ByteArray),7)) (fun k=>?_) (Ev.now _))
   ·unfold bH.f;rw[if_neg (by omega),decide_eq_true (by omega)]
   ·simp only[bH.j0];rw[if_pos trivial]
  ·rw[if_neg (by intro h;rcases h with h|h;exact h1 h;exact h2 h)];refine Ev.congr (f:=fun k=>bH.j0 k false neg n d) (fun k=>?_) (Ev.step (f:=fun _=>some (signed neg n,d,0)) (fun k=>?_) (Ev.now _))
   ·unfold bH.f;rw[if_neg (by omega),decide_eq_false (by omega)]
   ·simp only[bH.j0];rw[if_neg (by decide)];cases neg
    ·rw[if_neg (by decide)];rfl
    ·rw[if_pos rfl,if_pos (by omega)];rfl
theorem anO (i d:Nat):(List.replicate i (48:Int)++List.replicate (d+1) 0).set i 48=List.replicate (i+1) 48++List.replicate d 0:=by
 rw[List.set_append_right _ _ (by simp),List.length_replicate,Nat.sub_self,List.replicate_succ,List.set_cons_zero,List.replicate_succ',List.append_assoc];rfl
theorem YE (n:Nat)(hn:n≤1000000):∀(d i:Nat),i+d=n→Ev (fun k=>bI.l0 k (List.replicate i (48:Int)++List.replicate d 0) (n:Int) (i:Int)) (strOfNums (List.replicate n 48)):=by
 intro d
 induction d with
 |zero=>
  intro i hi;obtain rfl:i=n:=by omega
  refine Ev.step (f:=fun _=>some (strOfNums (List.replicate i 48))) (fun k=>?_) (Ev.now _);simp only[bI.l0];rw[if_neg (by omega),List.replicate_zero,List.append_nil]
 |succ d ih=>
  intro i hi;refine Ev.step (f:=fun k=>bI.l0 k (List.replicate (i+1) (48:Int)++List.replicate d 0) (n:Int) ((i+1:Nat):Int)) (fun k=>?_) (ih (i+1) (by omega));simp only[bI.l0];rw[if_pos (by omega),if_pos (by omega),if_pos (by simp only[List.length_append,List.length_replicate];omega),fD (by omega) (by omega),Int.toNat_natCast,anO];rfl
theorem MS (n:Nat)(hn:n≤1000000):Ev (fun k=>bI.f k (n:Int)) (strOfNums (List.replicate n 48)):=by
 refine Ev.congr (f:=fun k=>bI.l0 k (List.replicate 0 (48:Int)++List.replicate n 0) (n:Int) ((0:Nat):Int)) (fun k=>?_) (YE n hn n 0 (by omega));unfold bI.f;rw[if_pos (by omega),if_pos (by omega),Int.toNat_natCast];simp only[Option.bind_some,List.length_replicate,List.replicate_zero,List.nil_append];rfl
theorem oZ:∀(k:Nat) (v:Int),dec v (List.replicate k 48)=v*10^k
 |0,v=>(Int.mul_one v).symm
 |k+1,v=>by
  rw[List.replicate_succ]
  show dec (v*10+(48- 48)) (List.replicate k 48)=_
  rw[oZ k,Int.pow_succ,Int.sub_self,Int.add_zero,Int.mul_assoc,Int.mul_comm 10]
theorem lT (m:ByteArray)(k:Nat):bytesOf (m++strOfNums (List.replicate k 48))=bytesOf m++List.replicate k 48:=by
 have e:∀a b:ByteArray,bytesOf (a++b)=bytesOf a++bytesOf b:=fun a b=>by simp[bytesOf,ByteArray.data_append]
 rw[e,jo];intro x hx;rw[(List.mem_replicate.1 hx).2];omega
theorem Ai (m:ByteArray)(k:Nat):dv (m++strOfNums (List.replicate k 48))=dv m*10^k:=by
 unfold dv;rw[lT,mG,oZ]
theorem sQ {m:ByteArray}(h:Canon m)(h0:dv m≠0)(k:Nat):Canon (m++strOfNums (List.replicate k 48)):=by
 have hne:bt m 0≠48:=by
  intro e;have h1:=h.2.1 e;have h2:=h.1;refine h0 ?_;obtain⟨a,l,hl,hb⟩:=yG h2;have hz:=bV m;rw[hl,List.length_cons]at hz;have hl0:l=[]:=List.eq_nil_of_length_eq_zero (by omega);unfold dv;simp only[bytesOf,hl,hl0,List.map_cons,List.map_nil];rw[←hb,e];rfl
 refine⟨by rw[ByteArray.size_append];have:=h.1;omega,fun e=>absurd e ?_,?_⟩
 ·rw[←gW,lT];obtain⟨a,l,hl,hb⟩:=yG h.1;simp only[bytesOf,hl,List.map_cons,List.cons_append];rw[hb]at hne;simpa[rd]using hne
 ·rw[lT];intro c hc;rcases List.mem_append.1 hc with h1|h1
  ·exact h.2.2 c h1
  ·rw[(List.mem_replicate.1 h1).2];omega
theorem uz:∀(l:List UInt8) (acc:Nat),(∀b∈l,48≤b.toNat∧b.toNat≤57)→∃n:Nat,Lib.decFrom acc l=some n∧(n:Int)=dec (acc:Int) (l.map fun b=>(b.toNat:Int))
 | [],acc,_=>⟨acc,rfl,rfl⟩
 |b::l,acc,h=>by
  have hb:=h b List.mem_cons_self
  have hv:Lib.digitVal b=some (b.toNat- 48):=by
   unfold Lib.digitVal
   first
    |rw[if_pos (by omega)]
    |simp[hb.1,hb.2]
  obtain⟨n,h1,h2⟩:=uz l (acc*10+(b.toNat- 48)) (fun x hx=>h x (List.mem_cons_of_mem _ hx));refine⟨n,?_,?_⟩
  ·simp only[Lib.decFrom,hv];exact h1
  ·rw[h2,List.map_cons]
   show dec _ _=dec ((acc:Int)*10+((b.toNat:Int)- 48)) _
   congr 1
   omega
theorem JL (s:ByteArray)(h0:0<s.size)(h:Num (bytesOf s)):Lib.atoi s.data.toList=some (dv s):=by
 obtain⟨a,l,hl,hb⟩:=yG h0
 have hd:∀b∈s.data.toList,48≤b.toNat∧b.toNat≤57:=by
  intro b hbm;have h1:=h (b.toNat:Int) (by simp only[bytesOf];exact List.mem_map.2 ⟨b,hbm,rfl⟩);omega
 obtain⟨n,h1,h2⟩:=uz s.data.toList 0 hd;have ha:=hd a (by rw[hl];exact List.mem_cons_self)
 have e1:(a==45)=false:=by
  refine beq_eq_false_iff_ne.mpr ?_;rintro rfl;exact absurd ha.1 (by decide)
 have e2:(a==43)=false:=by
  refine beq_eq_false_iff_ne.mpr ?_;rintro rfl;exact absurd ha.1 (by decide)
 have e3:dv s=(n:Int):=h2.symm;rw[e3];rw[hl]at h1⊢;simp only[Lib.atoi,e1,e2,Lib.decNat,List.isEmpty_cons,Bool.false_eq_true,if_false];rw[h1];rfl
def pt (ps:List ByteArray)(i:Nat):ByteArray:=ps.getD i ⟨#[]⟩
theorem uJ {ps:List ByteArray}{i:Nat}(h:i<ps.length):pt ps i=ps[i]:=by simp[pt,h]
theorem xP {ps:List ByteArray}{i:Nat}(h:i<ps.length):pt ps i∈ps:=by rw[uJ h];exact List.getElem_mem h
structure rJ (ps:List ByteArray):Prop where
 len:8≤ps.length
 c0:Canon (pt ps 0)
 c1:Canon (pt ps 1)
 c2:Canon (pt ps 2)
 sign:((pt ps 3).toList==[43])=true∨((pt ps 3).toList==[120])=true
 opn:∀i,4≤i→i<ps.length→i≠5→i≠6→(oM (pt ps i)).2=true
def Nc (m:Int)(ps:List ByteArray)(n d n2 d2:ByteArray):iU:=⟨mn (dv (pt ps 0)) m,(oM (pt ps 4)).1,⟨n,d⟩,⟨n2,d2⟩,(oM (pt ps 7)).1,mn (dv (pt ps 2)) m,(ps.drop 8).map (fun t=>(oM t).1),mn (dv (pt ps 1)) m,((pt ps 3).toList==[120])⟩
def oO (ps:List ByteArray)(er:Int)(x:iU):Prop:=
 (¬rJ ps∧er=170)∨
 (rJ ps∧∃n d e1,lW (pt ps 5) n d e1∧((e1≠0∧er=e1)∨(e1=0∧∃n2 d2 e2,lW (pt ps 6) n2 d2 e2∧((e2≠0∧er=e2)∨(e2=0∧er=iK (Nc 1000001 ps n d n2 d2)∧(er=0→x=Nc 1000001 ps n d n2 d2))))))
theorem DJ {m:Int}(hm:1000001≤m){ps:List ByteArray}(h:rJ ps)(n d n2 d2:ByteArray):Bounds (Nc m ps n d n2 d2)↔1≤dv (pt ps 0)∧dv (pt ps 0)≤4096∧dv (pt ps 1)≤4096∧dv (pt ps 2)≤1000000:=by
 have h0:=fP h.c0;have h1:=fP h.c1;have h2:=fP h.c2
 show(1≤mn (dv (pt ps 0)) m∧mn (dv (pt ps 0)) m≤4096∧0≤mn (dv (pt ps 1)) m∧mn (dv (pt ps 1)) m≤4096∧0≤mn (dv (pt ps 2)) m∧mn (dv (pt ps 2)) m≤1000000)↔_
 unfold mn;omega
theorem aa2 {m m2:Int}(hm:1000001≤m)(hm2:1000001≤m2){ps:List ByteArray}(h:rJ ps)(n d n2 d2:ByteArray):
  iK (Nc m ps n d n2 d2)=iK (Nc m2 ps n d n2 d2)∧(iK (Nc m ps n d n2 d2)=0→Nc m ps n d n2 d2=Nc m2 ps n d n2 d2):=by
 have hb:=DJ hm h n d n2 d2;have hb2:=DJ hm2 h n d n2 d2
 by_cases hh:1≤dv (pt ps 0)∧dv (pt ps 0)≤4096∧dv (pt ps 1)≤4096∧dv (pt ps 2)≤1000000
 ·have e:Nc m ps n d n2 d2=Nc m2 ps n d n2 d2:=by
   have h0:=fP h.c0;have h1:=fP h.c1;have h2:=fP h.c2;unfold Nc;rw[show mn (dv (pt ps 0)) m=mn (dv (pt ps 0)) m2 by unfold mn;omega,show mn (dv (pt ps 1)) m=mn (dv (pt ps 1)) m2 by unfold mn;omega,show mn (dv (pt ps 2)) m=mn (dv (pt ps 2)) m2 by unfold mn;omega]
  rw[e];exact⟨rfl,fun _=>rfl⟩
 ·have e1:=fG (fun k=>hh (hb.1 k));have e2:=fG (fun k=>hh (hb2.1 k));rw[e1,e2];exact⟨rfl,fun h=>absurd h (by decide)⟩
theorem Bl {s n d:ByteArray}{er:Int}(h:lW s n d er):er=0∨er=3∨er=4∨er=7∨er=8:=by
 obtain⟨e0,hp,h⟩:=h
 have hc:e0=0∨e0=3∨e0=4∨e0=7∨e0=8:=by
  rcases hp with⟨_,_,_,h⟩|⟨_,_,_,_,h⟩|⟨hs,f,hf,⟨h,_,_⟩|⟨x,y,hv,t,d2,hl,h|h⟩⟩
  ·omega
  ·omega
  ·rcases h with⟨_,_,h⟩|⟨_,_,_,h⟩|⟨_,_,h⟩<;>omega
  ·have:=h.2.2.2;omega
  ·have:=h.2.2.2;omega
 rcases h with⟨_,h⟩|⟨_,_,h⟩|⟨_,_,h⟩
 ·omega
 ·omega
 ·omega
theorem NV (x:iU):iK x=0∨iK x=1∨iK x=3∨iK x=9∨iK x=4:=by
 by_cases hb:Bounds x
 ·by_cases hr:kL x.f2.f0 x.f2.f1∧kL x.f3.f0 x.f3.f1
  ·by_cases hm:minus x.f3.f0=true
   ·rw[rQ hb hr hm];omega
   ·by_cases hl:8<x.f6.length
    ·rw[uZ hb hr hm hl];omega
    ·rw[CQ hb hr hm hl];omega
  ·rw[lG hb hr];omega
 ·rw[fG hb];omega
theorem Lm {ps:List ByteArray}{er TN:Int}{x x2:iU}(h:oO ps er x)(h2:oO ps TN x2):er=TN∧(er=0→x=x2):=by
 rcases h with⟨h0,he⟩|⟨h0,n,d,e1,hx,h⟩<;>rcases h2 with⟨k0,ke⟩|⟨k0,n2,d2,e2,hx2,h2⟩
 ·exact⟨he.trans ke.symm,fun h=>by omega⟩
 ·exact absurd k0 h0
 ·exact absurd h0 k0
 ·obtain⟨rfl,rfl,rfl⟩:=Gn hx hx2;rcases h with⟨a0,ae⟩|⟨a0,m,b,f1,hy,h⟩<;>rcases h2 with⟨b0,be⟩|⟨b0,m2,b2,f2,hy2,h2⟩
  ·exact⟨ae.trans be.symm,fun h=>absurd (ae.symm.trans h) a0⟩
  ·exact absurd b0 a0
  ·exact absurd a0 b0
  ·obtain⟨rfl,rfl,rfl⟩:=Gn hy hy2;rcases h with⟨a1,ae⟩|⟨a1,ae,ax⟩<;>rcases h2 with⟨b1,be⟩|⟨b1,be,bx⟩
   ·exact⟨ae.trans be.symm,fun h=>absurd (ae.symm.trans h) a1⟩
   ·exact absurd b1 a1
   ·exact absurd a1 b1
   ·have e:er=TN:=ae.trans be.symm;exact⟨e,fun h=>(ax h).trans (bx (e▸h)).symm⟩
theorem Ll {ps:List ByteArray}{x:iU}(h:oO ps 0 x):iK x=0∧rJ ps∧∃n d n2 d2,lW (pt ps 5) n d 0∧lW (pt ps 6) n2 d2 0∧x=Nc 1000001 ps n d n2 d2:=by
 rcases h with⟨h0,he⟩|⟨h0,n,d,e1,hx,⟨h1,he⟩|⟨rfl,n2,d2,e2,hy,⟨h2,he⟩|⟨rfl,he,h⟩⟩⟩
 ·omega
 ·exact absurd he.symm h1
 ·exact absurd he.symm h2
 ·have:=h rfl;exact⟨by rw[this];exact he.symm,h0,n,d,n2,d2,hx,hy,this⟩
def PF:List ByteArray→Int→Int→Int→List iU→Prop
 | [],_,_,_,_=>False
 | [t],i,er,pos,l=>(t.size=0∧er=0∧pos=0∧l=[])∨(t.size≠0∧er=170∧pos=i)
 |t::u::r,i,er,pos,l=>∃e1 x,oO (eF 9 t) e1 x∧((e1≠0∧er=e1∧pos=i)∨(e1=0∧∃l',PF (u::r) (i+1) er pos l'∧(er=0→l=x::l')))
theorem XU:∀(ts:List ByteArray) (i:Int) {er pos TN LJ:Int} {l l2:List iU},PF ts i er pos l→PF ts i TN LJ l2→er=TN∧pos=LJ∧(er=0→l=l2)
 | [],_,_,_,_,_,_,_,h,_=>h.elim
 | [t],i,er,pos,TN,LJ,l,l2,h,h2=>by
  rcases h with⟨h0,rfl,rfl,rfl⟩|⟨h0,rfl,rfl⟩<;>rcases h2 with⟨k0,rfl,rfl,rfl⟩|⟨k0,rfl,rfl⟩
  ·exact⟨rfl,rfl,fun _=>rfl⟩
  ·exact absurd h0 k0
  ·exact absurd k0 h0
  ·exact⟨rfl,rfl,fun h=>absurd h (by decide)⟩
 |t::u::r,i,er,pos,TN,LJ,l,l2,h,h2=>by
  obtain⟨e1,x,hx,h⟩:=h;obtain⟨e2,x2,hx2,h2⟩:=h2;obtain⟨rfl,hxx⟩:=Lm hx hx2;rcases h with⟨h0,rfl,rfl⟩|⟨h0,l',hp,hl⟩<;>rcases h2 with⟨k0,rfl,rfl⟩|⟨k0,l2',hp2,hl2⟩
  ·exact⟨rfl,rfl,fun h=>absurd h h0⟩
  ·exact absurd k0 h0
  ·exact absurd h0 k0
  ·obtain⟨rfl,rfl,hll⟩:=XU (u::r) (i+1) hp hp2;refine⟨rfl,rfl,fun h=>?_⟩;rw[hl h,hl2 h,hxx h0,hll h]
def oP (s:ByteArray)(er pos:Int)(l:List iU):Prop:=
 ((65536<s.size∨4097<(eF 10 s).length)∧er=4∧pos=0∧l=[])∨
 (s.size≤65536∧(eF 10 s).length≤4097∧∃l',PF (eF 10 s) 0 er pos l'∧l=if er=0 then l' else[])
theorem BF {s:ByteArray}{er pos TN LJ:Int}{l l2:List iU}(h:oP s er pos l)(h2:oP s TN LJ l2):er=TN∧pos=LJ∧l=l2:=by
 rcases h with⟨h0,rfl,rfl,rfl⟩|⟨h0,h1,l',hp,hl⟩<;>rcases h2 with⟨k0,rfl,rfl,rfl⟩|⟨k0,k1,l2',hp2,hl2⟩
 ·exact⟨rfl,rfl,rfl⟩
 ·omega
 ·omega
 ·obtain⟨rfl,rfl,hll⟩:=XU _ _ hp hp2;refine⟨rfl,rfl,?_⟩;rw[hl,hl2]
  by_cases he:er=0
  ·rw[if_pos he,if_pos he,hll he]
  ·rw[if_neg he,if_neg he]
end Go.Proofs.YthbdjmopolpjmaaGreatDoor.C
namespace Go.Proofs.YthbdjmopolpjmaaGreatDoor.bulks
theorem one_le {H:Type}(d:DataW H):1≤Rows.uptoBulk d:=by
 cases d with
 |lit l=>cases l<;>simp[Rows.uptoBulk]
 |nil=>simp[Rows.uptoBulk]
 |ptr d=>simp[Rows.uptoBulk]
 |slice elems spare=>simp[Rows.uptoBulk]
 |agg parts=>simp[Rows.uptoBulk]
 |iface t d=>simp[Rows.uptoBulk]
 |map entries=>simp[Rows.uptoBulk]
 |held h=>simp[Rows.uptoBulk]
theorem append {H:Type}(l r:List (DataW H)):Rows.uptoBulkAll (l++r)=Rows.uptoBulkAll l+Rows.uptoBulkAll r:=by
 induction l with
 |nil=>simp[Rows.uptoBulkAll]
 |cons x l ih=>simp only[List.cons_append,Rows.uptoBulkAll,ih];omega
theorem length_le {H:Type}(l:List (DataW H)):l.length≤Rows.uptoBulkAll l:=by
 induction l with
 |nil=>simp[Rows.uptoBulkAll]
 |cons x r ih=>have:=one_le x;simp only[Rows.uptoBulkAll,List.length_cons];omega
theorem bound {H:Type}{l:List (DataW H)}(hk:Rows.uptoSmall H l=true):Rows.uptoBulkAll l≤1048576:=by
 simpa[Rows.uptoSmall]using hk
end Go.Proofs.YthbdjmopolpjmaaGreatDoor.bulks
namespace Go.Proofs.YthbdjmopolpjmaaGreatDoor.C
open Go.RowKit
theorem al5:Tryz.prog.globalNamed "internal/strconv.uint64pow10" =some 3:=by kernel_rfl
theorem VU:(Tryz.prog.globals[3]?).map (·.type)=some 271:=by kernel_rfl
theorem al4:Tryz.prog.globalNamed "errors.errorType" =some 1:=by kernel_rfl
theorem ab6:Tryz.prog.globalNamed "cubit/book.errLine" =some 0:=by kernel_rfl
theorem RH:(Tryz.prog.globals[0]?).map (·.type)=some 44:=by kernel_rfl
theorem U3:Tryz.prog.cellsOf 271=20:=by kernel_rfl
theorem U2:Tryz.prog.cellsOf 162=1:=by kernel_rfl
theorem U4:Tryz.prog.cellsOf 349=1:=by kernel_rfl
theorem Zg:Tryz.prog.cellsOf 9=1:=by kernel_rfl
theorem star: "*" ++ "errors.errorString" = "*errors.errorString" :=by decide
theorem ae2 (u:TypeId)(h:Tryz.prog.typeName? 3 u=some "*errors.errorString"):u=347:=
 typeName_ptr_named (nm:= "errors.errorString") (by rw[star];kernel_rfl) (by kernel_rfl) (by decide) u (by rw[star];exact h)
theorem rtype:(Tryz.prog.cutTypes.find? (·.1== "internal/reflectlite.rtype")).map (·.2)=some 182:=by kernel_rfl
theorem oneRow:((List.range 390).filter fun t=>Tryz.prog.rowNamed t [101,114,114,111,114])=[44]:=by kernel_rfl
theorem TA:Tryz.prog.types.size=390:=by kernel_rfl
theorem V7:typeHandle Tryz.prog 44= .pointer (some ⟨10,44,none⟩):=by kernel_rfl
def Oj:List (String×DataW Unit):=[("errors.errorType",Rows.laid_errors_errorType)]
end Go.Proofs.YthbdjmopolpjmaaGreatDoor.C
namespace Go.Proofs.YthbdjmopolpjmaaGreatDoor.C
open Go.RowKit Go.Proofs.YthbdjmopolpjmaaGreatDoorW.PrintWords Go.Proofs.YthbdjmopolpjmaaGreatDoorW.PrintLast Go.Proofs.YthbdjmopolpjmaaGreatDoorW.PrintMore Go.Proofs.YthbdjmopolpjmaaGreatDoor.F Go.Proofs.YthbdjmopolpjmaaGreatDoor.M
attribute [local go_sem] max2_int min2_int max_two min_two max_three min_three max_four min_four
def ac6 (x:ByteArray)(dn:Bool)(bh:Int)(e:Ending):Prop:=
 ((4<x.size∨4096<dv x)∧e= .returned (.tuple #[.int .i64 0,.bool false]))∨(x.size≤4∧dv x≤4096∧e= .returned (.tuple #[.int .i64 ((if dn=true then- dv x else dv x)- bh),.bool true]))
theorem xu (w:World)(t:ByteArray):Below w.heap.size w (Lib.bytesWorld w 5 t):=lK (Below.refl _ _) (Nat.le_refl _) 5 t
theorem L6 (neg:Bool)(m x:ByteArray)(dn:Bool)(bh:Int)(den:ByteArray)(sl:Int)(w:World)(hx:Num (bytesOf x))(h0:0≤bh)(h1:bh≤65536):
  Calls Tryz.prog 153 #[.agg #[.bool neg,.string m,.string x,.bool dn,.int .i64 bh,.string den,.int .i64 sl]] w fun e w'=>ac6 x dn bh e∧Below w.heap.size w w':=by
 have hz:=bZ w (.cells #[.bool neg,.string m,.string x,.bool dn,.int .i64 bh,.string den,.int .i64 sl] 226);have hb:=ag (Below.refl w.heap.size w) (.cells #[.bool neg,.string m,.string x,.bool dn,.int .i64 bh,.string den,.int .i64 sl] 226);have H0:=zM (zA hz (zA hb (zA hx (zA h0 h1))));have hd0:=o8 hx 0 (Int.le_refl _);obtain⟨v,hv⟩:∃v,dv x=v:=⟨_,rfl⟩;have hv0:0≤v:=by rw[←hv];exact hd0
 have HV:=zM (zA hv hv0);clear hz hb hx h0 h1 hd0 hv hv0
 by_cases hxs:x.size=0
 ·have hx0:x=⟨#[]⟩:=by
   have h:=bV x;rw[hxs]at h;exact ByteArray.ext (Array.ext' (List.eq_nil_of_length_eq_zero h))
  subst hx0;have hv0:v=0:=HV.out.1.symm;have hs1:wrap64 (0- bh)=0- bh:=fD (by have:=H0.out;omega) (by have:=H0.out;omega);have hs2:IntKind.i64.wrap (0- bh)=0- bh:=by rw[dL];exact hs1
  have hs3:wrap64 (-bh)= -bh:=fD (by have:=H0.out;omega) (by have:=H0.out;omega);have hs4:IntKind.i64.wrap (-bh)= -bh:=by rw[dL];exact hs3
  clear hxs;cases dn
  ·go_enter Tryz.func153,Tryz.ntmps153;go_wp2_with fail;go_ret2;exact⟨.inr ⟨Nat.zero_le _,by decide,by simp[show dv ⟨#[]⟩=0 from rfl]⟩,H0.out.2.1⟩
  ·go_enter Tryz.func153,Tryz.ntmps153;go_wp2_with fail;go_ret2;exact⟨.inr ⟨Nat.zero_le _,by decide,by simp[show dv ⟨#[]⟩=0 from rfl]⟩,H0.out.2.1⟩
 ·have hne:(x.toList==[])=false:=by
   rw[ByteArray.toList_eq];have h:=bV x;cases hh:x.data.toList with
   |nil=>rw[hh]at h;simp at h;omega
   |cons a b=>rfl
  have HXS:=zM hxs;clear hxs
  by_cases h4:4<x.size
  ·have q1:decide (4<(x.size:Int))=true:=decide_eq_true (by omega);have q2:=zT h4;have H4:=zM h4;clear h4;go_enter Tryz.func153,Tryz.ntmps153;go_wp2_with fail;go_ret2;exact⟨.inl ⟨.inl H4.out,rfl⟩,H0.out.2.1⟩
  ·have q1:decide (4<(x.size:Int))=false:=decide_eq_false (by omega);have q2:=zF h4;have hat:Lib.atoi x.data.toList=some v:=by rw[←HV.out.1];exact JL x (by have:=HXS.out;omega) H0.out.2.2.1
   have HAT:=zM (zA hat (show x.size≤18 by omega));have H4:=zM h4;clear h4 hat
   by_cases h5:4096<v
   ·have q3:=zT h5;have H5:=zM h5;clear h5;go_enter Tryz.func153,Tryz.ntmps153;go_wp2_with fail;refine(Tryz.strconv_Atoi x v HAT.out.2 HAT.out.1 _).mono ?_;rintro e w2 ⟨rfl,t,rfl⟩;go_wp2_with fail;go_ret2;exact⟨.inl ⟨.inr (by rw[HV.out.1];exact H5.out),rfl⟩,ah H0.out.2.1 H0.out.2.1.size (xu _ t)⟩
   ·have q3:=zF h5;have hb:=H0.out.2.2.2;have hv0:=HV.out.2;have hs1:wrap64 (v- bh)=v- bh:=fD (by omega) (by omega);have hs2:IntKind.i64.wrap (v- bh)=v- bh:=by rw[dL];exact hs1
    have hs3:wrap64 (-v)= -v:=fD (by omega) (by omega);have hs4:IntKind.i64.wrap (-v)= -v:=by rw[dL];exact hs3
    have hs5:wrap64 (-v- bh)= -v- bh:=fD (by omega) (by omega);have hs6:IntKind.i64.wrap (-v- bh)= -v- bh:=by rw[dL];exact hs5
    have H5:=zM h5;clear h5 hb hv0;cases dn
    ·go_enter Tryz.func153,Tryz.ntmps153;go_wp2_with fail;refine(Tryz.strconv_Atoi x v HAT.out.2 HAT.out.1 _).mono ?_;rintro e w2 ⟨rfl,t,rfl⟩;have hB:=xu (w.alloc (.cells #[.bool neg,.string m,.string x,.bool false,.int .i64 bh,.string den,.int .i64 sl] 226)) t;have hz:=aT H0.out.1 hB;have hc3:=(aj hz 3).trans rfl;have hc4:=(aj hz 4).trans rfl;have HB:=zM (ah H0.out.2.1 H0.out.2.1.size hB);clear hB hz;go_wp2_with fail;go_ret2;exact⟨.inr ⟨by have:=H4.out;omega,by rw[HV.out.1];have:=H5.out;omega,by rw[HV.out.1];rfl⟩,HB.out⟩
    ·go_enter Tryz.func153,Tryz.ntmps153;go_wp2_with fail;refine(Tryz.strconv_Atoi x v HAT.out.2 HAT.out.1 _).mono ?_;rintro e w2 ⟨rfl,t,rfl⟩;have hB:=xu (w.alloc (.cells #[.bool neg,.string m,.string x,.bool true,.int .i64 bh,.string den,.int .i64 sl] 226)) t;have hz:=aT H0.out.1 hB;have hc3:=(aj hz 3).trans rfl;have hc4:=(aj hz 4).trans rfl;have HB:=zM (ah H0.out.2.1 H0.out.2.1.size hB);clear hB hz;go_wp2_with fail;go_ret2;exact⟨.inr ⟨by have:=H4.out;omega,by rw[HV.out.1];have:=H5.out;omega,by rw[HV.out.1];rfl⟩,HB.out⟩
theorem yc (n:Nat)(w:World)(hn:n≤1000000):Calls Tryz.prog 202 #[.int .i64 (n:Int)] w fun e w'=>e= .returned (.string (strOfNums (List.replicate n 48)))∧Below w.heap.size w w':=by
 obtain⟨k,hk⟩:=(MS n hn).rounds;exact(bI.calls k (n:Int) _ w hk).mono fun e w' h=>⟨h.1,h.2⟩
theorem mJ (x:Int):ja x 1=1:=by
 unfold ja;rw[show(1:Int).toNat=1 from rfl,Nat.gcd_one_right];rfl
theorem Iz:dv ⟨#[49]⟩=1:=rfl
def QY (neg:Bool)(m:ByteArray)(k:Int)(e:Ending):Prop:=
 (xg m k∧e= .returned (.tuple #[.agg #[.bool false,.string ⟨#[]⟩,.string ⟨#[]⟩],.bool false]))∨
 (¬xg m k∧∃n d,e= .returned (.tuple #[.agg #[.bool (neg&&decide (dv m≠0)),.string n,.string d],.bool true])∧Ib (dv m*10^k.toNat) (10^(-k).toNat) n d)
theorem Me (neg:Bool)(m:ByteArray)(k:Int)(w:World)(hm:Canon m)(hms:m.size≤70000)(hk0: -70000≤k)(hk1:k≤10000):
  Calls Tryz.prog 154 #[.bool neg,.string m,.int .i64 k] w fun e w'=>QY neg m k e∧Below w.heap.size w w':=by
 have hb0:Below w.heap.size w (w.alloc (.cells #[.bool false,.string ⟨#[]⟩,.string ⟨#[]⟩] 231)):=ag (Below.refl _ _) _;have hz:=bZ w (.cells #[.bool false,.string ⟨#[]⟩,.string ⟨#[]⟩] 231);have H0:=zM (zA hb0 (zA hz (zA hm (zA hms (zA hk0 hk1)))));have hw3:wrap64 ((m.size:Int)+k)=(m.size:Int)+k:=fD (by omega) (by omega);have hw4:IntKind.i64.wrap ((m.size:Int)+k)=(m.size:Int)+k:=by rw[dL];exact hw3
 have hw5:wrap64 (-k)= -k:=fD (by omega) (by omega);have hw6:IntKind.i64.wrap (-k)= -k:=by rw[dL];exact hw5
 clear hb0 hz hm hms hk0 hk1;go_enter Tryz.func154,Tryz.ntmps154
 by_cases h:600<m.size
 ·have C1q:=zT h;have C1r:decide (600<(m.size:Int))=true:=decide_eq_true (by omega);have C1:=zM h;clear h;go_wp2_with fail;refine bodyPost_ret (dw rfl _ _ w.heap.size 231 #[.bool false,.string ⟨#[]⟩,.string ⟨#[]⟩] (0,0) _ rfl (by first|exact H0.out.2.1|(have h:=aN (aN (aN H0.out.2.1 0 (.bool false)) 1 (.string ⟨#[]⟩)) 2 (.string ⟨#[]⟩);first|exact h|simpa using h)) Tryz.underlying231 rfl (by kernel_rfl)) rfl ?_;exact⟨.inl ⟨.inl C1.out,rfl⟩,by first|exact H0.out.1|exact((H0.out.1.setCell (Nat.le_refl _) _).setCell (Nat.le_refl _) _).setCell (Nat.le_refl _) _⟩
 ·have C1q:=zF h;have C1r:decide (600<(m.size:Int))=false:=decide_eq_false (by omega);have C1:=zM h;clear h
  by_cases h:k≤-600
  ·have C3q:=zT h;have C3:=zM h;clear h;go_wp2_with fail;refine bodyPost_ret (dw rfl _ _ w.heap.size 231 #[.bool false,.string ⟨#[]⟩,.string ⟨#[]⟩] (0,0) _ rfl (by first|exact H0.out.2.1|(have h:=aN (aN (aN H0.out.2.1 0 (.bool false)) 1 (.string ⟨#[]⟩)) 2 (.string ⟨#[]⟩);first|exact h|simpa using h)) Tryz.underlying231 rfl (by kernel_rfl)) rfl ?_;exact⟨.inl ⟨.inr (.inl ⟨by have:=C3.out;omega,by have:=C3.out;omega⟩),rfl⟩,by first|exact H0.out.1|exact((H0.out.1.setCell (Nat.le_refl _) _).setCell (Nat.le_refl _) _).setCell (Nat.le_refl _) _⟩
  ·have C3q:=zF h;have C3:=zM h;clear h
   by_cases h:0<k
   ·have C5q:=zT h;have C5:=zM h;clear h;have C4q:decide (k<0)=false:=decide_eq_false (by have:=C5.out;omega);have C2:=zM (show¬k<0 by have:=C5.out;omega);obtain⟨bm,hbm⟩:∃b,(m.toList==[48])=b:=⟨_,rfl⟩;have M0:=zM hbm;cases bm
    ·have M1:=M0
     by_cases h:600<(m.size:Int)+k
     ·have C6q:=zT h;have C6:=zM h;clear h;go_wp2_with fail;refine bodyPost_ret (dw rfl _ _ w.heap.size 231 #[.bool false,.string ⟨#[]⟩,.string ⟨#[]⟩] (0,0) _ rfl (by first|exact H0.out.2.1|(have h:=aN (aN (aN H0.out.2.1 0 (.bool false)) 1 (.string ⟨#[]⟩)) 2 (.string ⟨#[]⟩);first|exact h|simpa using h)) Tryz.underlying231 rfl (by kernel_rfl)) rfl ?_;exact⟨.inl ⟨.inr (.inr ⟨by have:=C5.out;omega,M0.out,C6.out⟩),rfl⟩,by first|exact H0.out.1|exact((H0.out.1.setCell (Nat.le_refl _) _).setCell (Nat.le_refl _) _).setCell (Nat.le_refl _) _⟩
     ·have C6q:=zF h;have C6:=zM h;clear h
      have hm0:dv m≠0:=by
       intro h;exact absurd (M0.out.symm.trans ((iZ H0.out.2.2.1 48 (by decide) (by decide)).2 (by rw[h];rfl))) (by decide)
      obtain⟨n,hn⟩:∃n:Nat,(n:Int)=k:=⟨k.toNat,by have:=C2.out;omega⟩;have TP:n≤70000:=by have:=H0.out.2.2.2.2.2;omega
      have Hy:=zM (zA hm0 (zA hn TP));have hzc:=fun W=>yc n W (by omega)
      rw[hn]at hzc;have HZC:=zM hzc
      have KO:¬9223372036854775807<m.size+(strOfNums (List.replicate n 48)).size:=by
       have h1:=bytesOf_length (strOfNums (List.replicate n 48));have h2:=bytesOf_length (m++strOfNums (List.replicate n 48));rw[lT,ByteArray.size_append,List.length_append,bytesOf_length,List.length_replicate]at h2;have:=H0.out.2.2.2.1;omega
      clear hm0 hn TP hzc;go_wp2_with fail;refine(HZC.out _).mono ?_;rintro e w2 ⟨rfl,h1⟩;obtain⟨z,hzz⟩:∃z,strOfNums (List.replicate n 48)=z:=⟨_,rfl⟩;rw[hzz]at KO⊢;have HZZ:=zM hzz;have hz:=aT H0.out.2.1 h1;have hz0:w2.cell? ⟨w.heap.size,0,none⟩=some (.bool false):=(aj hz 0).trans rfl;have hz1:w2.cell? ⟨w.heap.size,1,none⟩=some (.string ⟨#[]⟩):=(aj hz 1).trans rfl;have hz2:w2.cell? ⟨w.heap.size,2,none⟩=some (.string ⟨#[]⟩):=(aj hz 2).trans rfl;have hf0:=au hz 0;have hf1:=au hz 1;have hf2:=au hz 2;have H2:=zM (zA hz (ah H0.out.1 H0.out.1.size h1));clear h1 hz hzz;go_wp2_with fail;refine bodyPost_ret (dw rfl _ _ w.heap.size 231 #[.bool neg,.string (m++z),.string ⟨#[49]⟩] (0,0) _ rfl (by first|exact bZ w _|(have h:=aN (aN (aN (H2.out.1) 0 (.bool neg)) 1 (.string (m++z))) 2 (.string ⟨#[49]⟩);first|exact h|simpa using h)) Tryz.underlying231 rfl (by kernel_rfl)) rfl ?_;refine⟨.inr ⟨(by rintro(h|h|h);exact absurd h (by have:=C1.out;omega);exact absurd h.1 (by have:=C2.out;omega);exact absurd h.2.2 (by have:=C6.out;omega)),(m++z),⟨#[49]⟩,?_,?_⟩,by first|exact ag (Below.refl _ _) _|exact((H2.out.2.setCell (Nat.le_refl _) _).setCell (Nat.le_refl _) _).setCell (Nat.le_refl _) _|exact(H2.out.2.setCell (Nat.le_refl _) _).setCell (Nat.le_refl _) _⟩
      ·rw[decide_eq_true Hy.out.1,Bool.and_true];rfl
      ·rw[show(-k).toNat=0 by have:=C2.out;omega,show k.toNat=n by have:=Hy.out.2.1;omega,←HZZ.out];refine⟨sQ H0.out.2.2.1 Hy.out.1 n,oW,?_,?_⟩
       ·rw[show(10:Int)^0=1 from rfl,mJ,Int.mul_one,Ai]
       ·rw[show(10:Int)^0=1 from rfl,mJ];rfl
    ·have M1:=M0;have hm0:dv m=0:=by rw[MK M0.out];rfl
     have Hy:=zM hm0;clear hm0;go_wp2_with fail;refine bodyPost_ret (dw rfl _ _ w.heap.size 231 #[.bool false,.string ⟨#[48]⟩,.string ⟨#[49]⟩] (0,0) _ rfl (by first|exact bZ w _|(have h:=aN (aN (aN (H0.out.2.1) 0 (.bool false)) 1 (.string ⟨#[48]⟩)) 2 (.string ⟨#[49]⟩);first|exact h|simpa using h)) Tryz.underlying231 rfl (by kernel_rfl)) rfl ?_;refine⟨.inr ⟨(by rintro(h|h|h);exact absurd h (by have:=C1.out;omega);exact absurd h.1 (by have:=C2.out;omega);exact absurd (M0.out.symm.trans h.2.1) (by decide)),⟨#[48]⟩,⟨#[49]⟩,?_,?_⟩,by first|exact ag (Below.refl _ _) _|exact((H0.out.1.setCell (Nat.le_refl _) _).setCell (Nat.le_refl _) _).setCell (Nat.le_refl _) _|exact(H0.out.1.setCell (Nat.le_refl _) _).setCell (Nat.le_refl _) _⟩
     ·rw[Hy.out];cases neg<;>rfl
     ·rw[Hy.out,Int.zero_mul,show(-k).toNat=0 by have:=C2.out;omega];exact⟨rV,oW,Int.zero_mul _,by rw[show(10:Int)^0=1 from rfl,mJ];rfl⟩
   ·have C5q:=zF h;have C5:=zM h;clear h
    by_cases h:k<0
    ·have C2q:=zT h;have C2:=zM h;clear h;obtain⟨n,hn⟩:∃n:Nat,(n:Int)= -k:=⟨(-k).toNat,by have:=C2.out;omega⟩;have TP:n≤600:=by have:=C3.out;omega
     have Hy:=zM (zA hn TP);have hzc:=fun W=>yc n W (by omega)
     rw[hn]at hzc;have HZC:=zM hzc
     have hsz:(strOfNums (List.replicate n 48)).size=n:=by
      have h2:=bytesOf_length ((⟨#[49]⟩:ByteArray)++strOfNums (List.replicate n 48));rw[lT,ByteArray.size_append,List.length_append,bytesOf_length,List.length_replicate]at h2;omega
     have KO:¬9223372036854775807<1+(strOfNums (List.replicate n 48)).size:=by omega
     have YJ:=zM hsz;clear hn TP hzc hsz;go_wp2_with fail;refine(HZC.out _).mono ?_;rintro e w2 ⟨rfl,h1⟩;obtain⟨z,hzz⟩:∃z,strOfNums (List.replicate n 48)=z:=⟨_,rfl⟩;rw[hzz]at KO⊢;have HZZ:=zM hzz;have H2:=zM (zA (aT H0.out.2.1 h1) (ah H0.out.1 H0.out.1.size h1));clear h1 hzz;have hc1:=sQ oW (show dv ⟨#[49]⟩≠0 by rw[Iz];decide) n;have hd1:=Ai ⟨#[49]⟩ n;rw[HZZ.out]at hc1 hd1;rw[Iz,Int.one_mul]at hd1;have hp:(0:Int)<10^n:=Int.pow_pos (by omega);have hs1:((⟨#[49]⟩:ByteArray)++z).size≤1000:=by rw[ByteArray.size_append,←HZZ.out,YJ.out];have h:=Hy.out.2;have:(⟨#[49]⟩:ByteArray).size=1:=rfl;omega
     have H3:=zM (zA hc1 (zA hd1 (zA hp hs1)));clear hc1 hd1 hp hs1;go_wp2_with fail;refine(Bo neg m ((⟨#[49]⟩:ByteArray)++z) _ H0.out.2.2.1 H3.out.1 (by rw[H3.out.2.1];have:=H3.out.2.2.1;omega) (by have:=C1.out;omega) H3.out.2.2.2).mono ?_;rintro e w3 ⟨q,d,rfl,h1,h2⟩;rw[H3.out.2.1]at h1;have hz:=aT H2.out.1 h2;have hz0:w3.cell? ⟨w.heap.size,0,none⟩=some (.bool false):=(aj hz 0).trans rfl;have hz1:w3.cell? ⟨w.heap.size,1,none⟩=some (.string ⟨#[]⟩):=(aj hz 1).trans rfl;have hz2:w3.cell? ⟨w.heap.size,2,none⟩=some (.string ⟨#[]⟩):=(aj hz 2).trans rfl;have hf0:=au hz 0;have hf1:=au hz 1;have hf2:=au hz 2;obtain⟨sg,hsg⟩:∃b,(neg&&decide (dv m≠0))=b:=⟨_,rfl⟩;rw[hsg];have HS:=zM hsg;have H4:=zM (zA hz (zA (ah H2.out.2 H2.out.2.size h2) h1));clear h1 h2 hz hsg;go_wp2_with fail;refine bodyPost_ret (dw rfl _ _ w.heap.size 231 #[.bool sg,.string q,.string d] (0,0) _ rfl (by first|exact bZ w _|(have h:=aN (aN (aN (H4.out.1) 0 (.bool sg)) 1 (.string q)) 2 (.string d);first|exact h|simpa using h)) Tryz.underlying231 rfl (by kernel_rfl)) rfl ?_;refine⟨.inr ⟨(by rintro(h|h|h);exact absurd h (by have:=C1.out;omega);exact absurd h.2 (by have:=C3.out;omega);exact absurd h.1 (by have:=C2.out;omega)),q,d,?_,?_⟩,by first|exact ag (Below.refl _ _) _|exact((H4.out.2.1.setCell (Nat.le_refl _) _).setCell (Nat.le_refl _) _).setCell (Nat.le_refl _) _|exact(H4.out.2.1.setCell (Nat.le_refl _) _).setCell (Nat.le_refl _) _⟩
     ·rw[HS.out];rfl
     ·rw[show k.toNat=0 by have:=C2.out;omega,show(10:Int)^0=1 from rfl,Int.mul_one,show(-k).toNat=n by have:=Hy.out.1;omega];exact H4.out.2.2
    ·have C2q:=zF h;have C2:=zM h;clear h;obtain⟨bm,hbm⟩:∃b,(m.toList==[48])=b:=⟨_,rfl⟩;have M0:=zM hbm;cases bm
     ·have M1:=M0
      have hm0:dv m≠0:=by
       intro h;exact absurd (M0.out.symm.trans ((iZ H0.out.2.2.1 48 (by decide) (by decide)).2 (by rw[h];rfl))) (by decide)
      obtain⟨n,hn⟩:∃n:Nat,(n:Int)=k:=⟨k.toNat,by have:=C2.out;omega⟩;have TP:n≤70000:=by have:=H0.out.2.2.2.2.2;omega
      have Hy:=zM (zA hm0 (zA hn TP));have hzc:=fun W=>yc n W (by omega)
      rw[hn]at hzc;have HZC:=zM hzc
      have KO:¬9223372036854775807<m.size+(strOfNums (List.replicate n 48)).size:=by
       have h1:=bytesOf_length (strOfNums (List.replicate n 48));have h2:=bytesOf_length (m++strOfNums (List.replicate n 48));rw[lT,ByteArray.size_append,List.length_append,bytesOf_length,List.length_replicate]at h2;have:=H0.out.2.2.2.1;omega
      clear hm0 hn TP hzc;go_wp2_with fail;refine(HZC.out _).mono ?_;rintro e w2 ⟨rfl,h1⟩;obtain⟨z,hzz⟩:∃z,strOfNums (List.replicate n 48)=z:=⟨_,rfl⟩;rw[hzz]at KO⊢;have HZZ:=zM hzz;have hz:=aT H0.out.2.1 h1;have hz0:w2.cell? ⟨w.heap.size,0,none⟩=some (.bool false):=(aj hz 0).trans rfl;have hz1:w2.cell? ⟨w.heap.size,1,none⟩=some (.string ⟨#[]⟩):=(aj hz 1).trans rfl;have hz2:w2.cell? ⟨w.heap.size,2,none⟩=some (.string ⟨#[]⟩):=(aj hz 2).trans rfl;have hf0:=au hz 0;have hf1:=au hz 1;have hf2:=au hz 2;have H2:=zM (zA hz (ah H0.out.1 H0.out.1.size h1));clear h1 hz hzz;go_wp2_with fail;refine bodyPost_ret (dw rfl _ _ w.heap.size 231 #[.bool neg,.string (m++z),.string ⟨#[49]⟩] (0,0) _ rfl (by first|exact bZ w _|(have h:=aN (aN (aN (H2.out.1) 0 (.bool neg)) 1 (.string (m++z))) 2 (.string ⟨#[49]⟩);first|exact h|simpa using h)) Tryz.underlying231 rfl (by kernel_rfl)) rfl ?_;refine⟨.inr ⟨(by rintro(h|h|h);exact absurd h (by have:=C1.out;omega);exact absurd h.1 (by have:=C2.out;omega);exact absurd h.2.2 (by have:=C1.out;have:=C5.out;omega)),(m++z),⟨#[49]⟩,?_,?_⟩,by first|exact ag (Below.refl _ _) _|exact((H2.out.2.setCell (Nat.le_refl _) _).setCell (Nat.le_refl _) _).setCell (Nat.le_refl _) _|exact(H2.out.2.setCell (Nat.le_refl _) _).setCell (Nat.le_refl _) _⟩
      ·rw[decide_eq_true Hy.out.1,Bool.and_true];rfl
      ·rw[show(-k).toNat=0 by have:=C2.out;omega,show k.toNat=n by have:=Hy.out.2.1;omega,←HZZ.out];refine⟨sQ H0.out.2.2.1 Hy.out.1 n,oW,?_,?_⟩
       ·rw[show(10:Int)^0=1 from rfl,mJ,Int.mul_one,Ai]
       ·rw[show(10:Int)^0=1 from rfl,mJ];rfl
     ·have M1:=M0;have hm0:dv m=0:=by rw[MK M0.out];rfl
      have Hy:=zM hm0;clear hm0;go_wp2_with fail;refine bodyPost_ret (dw rfl _ _ w.heap.size 231 #[.bool false,.string ⟨#[48]⟩,.string ⟨#[49]⟩] (0,0) _ rfl (by first|exact bZ w _|(have h:=aN (aN (aN (H0.out.2.1) 0 (.bool false)) 1 (.string ⟨#[48]⟩)) 2 (.string ⟨#[49]⟩);first|exact h|simpa using h)) Tryz.underlying231 rfl (by kernel_rfl)) rfl ?_;refine⟨.inr ⟨(by rintro(h|h|h);exact absurd h (by have:=C1.out;omega);exact absurd h.1 (by have:=C2.out;omega);exact absurd (M0.out.symm.trans h.2.1) (by decide)),⟨#[48]⟩,⟨#[49]⟩,?_,?_⟩,by first|exact ag (Below.refl _ _) _|exact((H0.out.1.setCell (Nat.le_refl _) _).setCell (Nat.le_refl _) _).setCell (Nat.le_refl _) _|exact(H0.out.1.setCell (Nat.le_refl _) _).setCell (Nat.le_refl _) _⟩
      ·rw[Hy.out];cases neg<;>rfl
      ·rw[Hy.out,Int.zero_mul,show(-k).toNat=0 by have:=C2.out;omega];exact⟨rV,oW,Int.zero_mul _,by rw[show(10:Int)^0=1 from rfl,mJ];rfl⟩
end Go.Proofs.YthbdjmopolpjmaaGreatDoor.C
