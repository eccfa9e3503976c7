/- Part 4 of the proof. -/
import Derived.Test.YthbdjmopolpjmaaGreatDoorK01
set_option linter.unusedVariables false
set_option linter.unusedSimpArgs false
set_option maxHeartbeats 8000000
set_option maxRecDepth 100000
namespace Go.Proofs.YthbdjmopolpjmaaGreatDoor.F
open Go.RowKit Go.Proofs.YthbdjmopolpjmaaGreatDoorW.PrintWords Go.Proofs.YthbdjmopolpjmaaGreatDoorW.PrintLast Go.Proofs.YthbdjmopolpjmaaGreatDoorW.PrintMore
attribute [local go_sem] max2_int min2_int max_two min_two max_three min_three max_four min_four
mutual
def aH.l0:Nat→List Int→List Int→Int→Int→Int→Int→Option (List Int)
 |0,_,_,_,_,_,_=>none
 |k+1,x0,x1,x2,x3,x8,x9=>if x9<(x1.length:Int)then(aH.j1 k x0 x1 x2 x3 x8 x9 true)else(aH.j1 k x0 x1 x2 x3 x8 x9 (decide (x8>0)))
def aH.j1:Nat→List Int→List Int→Int→Int→Int→Int→Bool→Option (List Int)
 |0,_,_,_,_,_,_,_=>none
 |k+1,x0,x1,x2,x3,x8,x9,x18=>if x18=true then(if 0≤(wrap64 (x2+x9))then(if(wrap64 (x2+x9))<(x0.length:Int)then(if x9<(x1.length:Int)then(if 0≤x9 then(if(wrap64 ((wrap64 ((rd x0 (wrap64 (x2+x9)))- x8))- (wrap64 (x3*(rd x1 x9)))))<0 then(aH.l0 k (x0.set ((wrap64 (x2+x9)):Int).toNat (wrap64 ((wrap64 ((wrap64 ((rd x0 (wrap64 (x2+x9)))- x8))- (wrap64 (x3*(rd x1 x9)))))+(wrap64 ((wrap64 (Int.tdiv (wrap64 ((wrap64 ((wrap64 (-(wrap64 ((wrap64 ((rd x0 (wrap64 (x2+x9)))- x8))- (wrap64 (x3*(rd x1 x9)))))))+10000))- 1)) 10000))*10000))))) x1 x2 x3 (wrap64 (Int.tdiv (wrap64 ((wrap64 ((wrap64 (-(wrap64 ((wrap64 ((rd x0 (wrap64 (x2+x9)))- x8))- (wrap64 (x3*(rd x1 x9)))))))+10000))- 1)) 10000)) (wrap64 (x9+1)))else(aH.l0 k (x0.set ((wrap64 (x2+x9)):Int).toNat (wrap64 ((wrap64 ((rd x0 (wrap64 (x2+x9)))- x8))- (wrap64 (x3*(rd x1 x9)))))) x1 x2 x3 0 (wrap64 (x9+1))))else(none))else(if(wrap64 ((rd x0 (wrap64 (x2+x9)))- x8))<0 then(aH.l0 k (x0.set ((wrap64 (x2+x9)):Int).toNat (wrap64 ((wrap64 ((rd x0 (wrap64 (x2+x9)))- x8))+(wrap64 ((wrap64 (Int.tdiv (wrap64 ((wrap64 ((wrap64 (-(wrap64 ((rd x0 (wrap64 (x2+x9)))- x8))))+10000))- 1)) 10000))*10000))))) x1 x2 x3 (wrap64 (Int.tdiv (wrap64 ((wrap64 ((wrap64 (-(wrap64 ((rd x0 (wrap64 (x2+x9)))- x8))))+10000))- 1)) 10000)) (wrap64 (x9+1)))else(aH.l0 k (x0.set ((wrap64 (x2+x9)):Int).toNat (wrap64 ((rd x0 (wrap64 (x2+x9)))- x8))) x1 x2 x3 0 (wrap64 (x9+1)))))else(none))else(none))else(some x0)
end
def aH.f (k:Nat)(l0:List Int)(l1:List Int)(a2:Int)(a3:Int):Option (List Int):=aH.l0 k l0 l1 a2 a3 0 0
theorem aH.cO:∀k,(∀y0 y1 y2 y3 y4 y5,bT (aH.l0 k y0 y1 y2 y3 y4 y5) (aH.l0 (k+1) y0 y1 y2 y3 y4 y5))∧(∀y0 y1 y2 y3 y4 y5 y6,bT (aH.j1 k y0 y1 y2 y3 y4 y5 y6) (aH.j1 (k+1) y0 y1 y2 y3 y4 y5 y6))
 |0=>⟨fun _ _ _ _ _ _ r h=>by simp[aH.l0]at h,fun _ _ _ _ _ _ _ r h=>by simp[aH.j1]at h⟩
 |k+1=>by
  obtain⟨gU,ih1⟩:=aH.cO k;refine⟨?_,?_⟩
  ·intro y0 y1 y2 y3 y4 y5;unfold aH.l0
   repeat' first
   |exact gU _ _ _ _ _ _
   |exact ih1 _ _ _ _ _ _ _
   |exact bT.refl _
   |exact bT.none _
   |refine bT.ite ?_ ?_
   |refine bT.bind ?_ (fun _=>?_)
  ·intro y0 y1 y2 y3 y4 y5 y6;unfold aH.j1
   repeat' first
   |exact gU _ _ _ _ _ _
   |exact ih1 _ _ _ _ _ _ _
   |exact bT.refl _
   |exact bT.none _
   |refine bT.ite ?_ ?_
   |refine bT.bind ?_ (fun _=>?_)
theorem aH.mono:∀a0 a1 a2 a3 k,bT (aH.f k a0 a1 a2 a3) (aH.f (k+1) a0 a1 a2 a3):=by
 intro a0 a1 a2 a3 k;obtain⟨gU,ih1⟩:=aH.cO k;unfold aH.f
 repeat' first
   |exact gU _ _ _ _ _ _
   |exact ih1 _ _ _ _ _ _ _
   |exact bT.refl _
   |exact bT.none _
   |refine bT.ite ?_ ?_
   |refine bT.bind ?_ (fun _=>?_)
theorem aH.calls (k:Nat)(iG:Nat→Prop)(iQ:Value)(l0:List Int)(A1:Option Addr)(c1:Nat)(l1:List Int)(a2:Int)(a3:Int)(r:List Int)(w0 w:World)(hB:Below w0.heap.size w0 w)(ho0:Kd.R (Kd.int .i64) 3 w w0.heap.size iG iQ l0)(hr1:∀W_,Kept w W_ (fun k_=>iG k_)→Kd.C (Kd.int .i64) W_ A1 l1.length l1)(hc1:l1.length≤c1)(h:aH.f k l0 l1 a2 a3=some r):
  Calls Tryz.prog 176 #[iQ,.slice A1 l1.length c1,.int .i64 a2,.int .i64 a3] w fun e w'=>e= .returned (.tuple #[])∧Kd.R (Kd.int .i64) 3 w' w0.heap.size (fun k_=>(iG k_∨w.heap.size≤k_)) iQ r∧Below w0.heap.size w0 w'∧Kept w w' (fun k_=>iG k_):=by
 have zC:=zM (show Kd.R (Kd.int .i64) 3 w w0.heap.size (fun k_=>(iG k_∨w.heap.size≤k_)) iQ l0 from Kd.gI ho0 (fun k_ hk=>(.inl hk)));have HR1:=zM hr1;have MV:=zM hc1;clear hr1 hc1;have HK:=zM (Kept.refl w (fun k_=>iG k_));have HW0:=zM hB.size;have HB:=zM hB;clear hB;have H:(aH.l0 k l0 l1 a2 a3 0 0)=some r:=h;clear h;have H':=zM H;clear H;go_enter Tryz.func176,Tryz.ntmps176;go_wp2;go_loopg [8,9] k (fun kq v8 v9 w'=>∃(aU:List Int) (bU:Int) (fA:Int),v8= .int .i64 bU∧v9= .int .i64 fA∧Aside0 (aH.l0 kq aU l1 a2 a3 bU fA=some r)∧Aside0 (kq≤k)∧Aside0 (Kd.R (Kd.int .i64) 3 w' w0.heap.size (fun k_=>(iG k_∨w.heap.size≤k_)) iQ aU)∧Aside0 (Kept w w' (fun k_=>iG k_))∧Aside0 (Below w0.heap.size w0 w'))
 case atStart=>exact⟨(l0),(0),(0),zR,zR,H',⟨Nat.le_refl _⟩,⟨zO zC.out⟩,⟨zK⟩,⟨zB⟩⟩
 case round=>
  clear H';try clear c1
  try clear p2
  obtain⟨aU,bU,fA,rfl,rfl,HA,fM,bF,HK,HB⟩:=hrel;cases gk with
  |zero=>exact absurd HA.out (by simp[aH.l0])
  |succ k1=>
   have H:=HA.out;clear HA;simp only[aH.l0]at H;have HC5:=zM H;clear H;go_upto_region 2 with(fail);go_cut [18] (fun v18 wc=>∃(kq:Nat) (QQ:Bool),v18= .bool QQ∧Aside0 (aH.j1 kq aU l1 a2 a3 bU fA QQ=some r)∧Aside0 (kq≤k1)∧Aside0 (Kd.R (Kd.int .i64) 3 wc w0.heap.size (fun k_=>(iG k_∨w.heap.size≤k_)) iQ aU)∧Aside0 (Kept w wc (fun k_=>iG k_))∧Aside0 (Below w0.heap.size w0 wc))
   case first=>
    have H:=HC5.out;clear HC5
    by_cases c6:fA<(l1.length:Int)
    ·rw[if_pos c6]at H;have iP:=zT c6;clear c6
     (first|rw[iP]|(simp only[dL,jK];rw[iP])|skip)
     have H':=zM H;clear H;go_wp2;go_meet
     case rel=>exact⟨_,(true),zR,H',⟨by have:=fM.out;first|omega|exact Nat.le_refl _⟩,⟨zO bF.out⟩,⟨zK⟩,⟨zB⟩⟩
    ·rw[if_neg c6]at H;have iP:=zF c6;clear c6
     (first|rw[iP]|(simp only[dL,jK];rw[iP])|skip)
     have H':=zM H;clear H;go_wp2;go_meet
     case rel=>exact⟨_,(decide (bU>0)),zR,H',⟨by have:=fM.out;first|omega|exact Nat.le_refl _⟩,⟨zO bF.out⟩,⟨zK⟩,⟨zB⟩⟩
   case rest=>
    clear HC5;try clear c1
    try clear p2
    try clear c6
    try clear iP
    try clear p2
    obtain⟨kq,QQ,rfl,HA,HJ4,bF,HK,HB⟩:=hcut;cases kq with
    |zero=>exact absurd HA.out (by simp[aH.j1])
    |succ Nb=>
     have H:=HA.out;clear HA;simp only[aH.j1]at H
     by_cases c7:QQ=true
     ·subst c7;have H1:(if 0≤(wrap64 (a2+fA))then(if(wrap64 (a2+fA))<(aU.length:Int)then(if fA<(l1.length:Int)then(if 0≤fA then(if(wrap64 ((wrap64 ((rd aU (wrap64 (a2+fA)))- bU))- (wrap64 (a3*(rd l1 fA)))))<0 then(aH.l0 Nb (aU.set ((wrap64 (a2+fA)):Int).toNat (wrap64 ((wrap64 ((wrap64 ((rd aU (wrap64 (a2+fA)))- bU))- (wrap64 (a3*(rd l1 fA)))))+(wrap64 ((wrap64 (Int.tdiv (wrap64 ((wrap64 ((wrap64 (-(wrap64 ((wrap64 ((rd aU (wrap64 (a2+fA)))- bU))- (wrap64 (a3*(rd l1 fA)))))))+10000))- 1)) 10000))*10000))))) l1 a2 a3 (wrap64 (Int.tdiv (wrap64 ((wrap64 ((wrap64 (-(wrap64 ((wrap64 ((rd aU (wrap64 (a2+fA)))- bU))- (wrap64 (a3*(rd l1 fA)))))))+10000))- 1)) 10000)) (wrap64 (fA+1)))else(aH.l0 Nb (aU.set ((wrap64 (a2+fA)):Int).toNat (wrap64 ((wrap64 ((rd aU (wrap64 (a2+fA)))- bU))- (wrap64 (a3*(rd l1 fA)))))) l1 a2 a3 0 (wrap64 (fA+1))))else(none))else(if(wrap64 ((rd aU (wrap64 (a2+fA)))- bU))<0 then(aH.l0 Nb (aU.set ((wrap64 (a2+fA)):Int).toNat (wrap64 ((wrap64 ((rd aU (wrap64 (a2+fA)))- bU))+(wrap64 ((wrap64 (Int.tdiv (wrap64 ((wrap64 ((wrap64 (-(wrap64 ((rd aU (wrap64 (a2+fA)))- bU))))+10000))- 1)) 10000))*10000))))) l1 a2 a3 (wrap64 (Int.tdiv (wrap64 ((wrap64 ((wrap64 (-(wrap64 ((rd aU (wrap64 (a2+fA)))- bU))))+10000))- 1)) 10000)) (wrap64 (fA+1)))else(aH.l0 Nb (aU.set ((wrap64 (a2+fA)):Int).toNat (wrap64 ((rd aU (wrap64 (a2+fA)))- bU))) l1 a2 a3 0 (wrap64 (fA+1)))))else(none))else(none))=some r:=by rw[if_pos rfl]at H;exact H
      clear H;have H:=H1;clear H1;obtain⟨jU,Wh⟩:=zI (wrap64 (a2+fA));replace H:(if 0≤(jU)then(if(jU)<(aU.length:Int)then(if fA<(l1.length:Int)then(if 0≤fA then(if(wrap64 ((wrap64 ((rd aU (jU))- bU))- (wrap64 (a3*(rd l1 fA)))))<0 then(aH.l0 Nb (aU.set ((jU):Int).toNat (wrap64 ((wrap64 ((wrap64 ((rd aU (jU))- bU))- (wrap64 (a3*(rd l1 fA)))))+(wrap64 ((wrap64 (Int.tdiv (wrap64 ((wrap64 ((wrap64 (-(wrap64 ((wrap64 ((rd aU (jU))- bU))- (wrap64 (a3*(rd l1 fA)))))))+10000))- 1)) 10000))*10000))))) l1 a2 a3 (wrap64 (Int.tdiv (wrap64 ((wrap64 ((wrap64 (-(wrap64 ((wrap64 ((rd aU (jU))- bU))- (wrap64 (a3*(rd l1 fA)))))))+10000))- 1)) 10000)) (wrap64 (fA+1)))else(aH.l0 Nb (aU.set ((jU):Int).toNat (wrap64 ((wrap64 ((rd aU (jU))- bU))- (wrap64 (a3*(rd l1 fA)))))) l1 a2 a3 0 (wrap64 (fA+1))))else(none))else(if(wrap64 ((rd aU (jU))- bU))<0 then(aH.l0 Nb (aU.set ((jU):Int).toNat (wrap64 ((wrap64 ((rd aU (jU))- bU))+(wrap64 ((wrap64 (Int.tdiv (wrap64 ((wrap64 ((wrap64 (-(wrap64 ((rd aU (jU))- bU))))+10000))- 1)) 10000))*10000))))) l1 a2 a3 (wrap64 (Int.tdiv (wrap64 ((wrap64 ((wrap64 (-(wrap64 ((rd aU (jU))- bU))))+10000))- 1)) 10000)) (wrap64 (fA+1)))else(aH.l0 Nb (aU.set ((jU):Int).toNat (wrap64 ((rd aU (jU))- bU))) l1 a2 a3 0 (wrap64 (fA+1)))))else(none))else(none))=some r:=by first|(rw[Wh]at H;exact H)|(simp only[Wh]at H⊢;exact H)
      have apl:(IntKind.i64.wrap (a2+fA))=jU:=(dL _).trans Wh
      by_cases c9:0≤(jU)
      ·rw[if_pos c9]at H;have qL:=zT c9;clear c9
       by_cases c10:(jU)<(aU.length:Int)
       ·rw[if_pos c10]at H;have yB:=zT c10;clear c10
        by_cases c11:fA<(l1.length:Int)
        ·rw[if_pos c11]at H;have lL:=zT c11;clear c11
         by_cases c12:0≤fA
         ·rw[if_pos c12]at H;have rf:=zT c12;clear c12
          by_cases c13:(wrap64 ((wrap64 ((rd aU (jU))- bU))- (wrap64 (a3*(rd l1 fA)))))<0
          ·rw[if_pos c13]at H;have oK:=zT c13;clear c13;obtain⟨aeg,WM⟩:∃y_:List Int,y_=(aU.set ((jU):Int).toNat (wrap64 ((wrap64 ((wrap64 ((rd aU (jU))- bU))- (wrap64 (a3*(rd l1 fA)))))+(wrap64 ((wrap64 (Int.tdiv (wrap64 ((wrap64 ((wrap64 (-(wrap64 ((wrap64 ((rd aU (jU))- bU))- (wrap64 (a3*(rd l1 fA)))))))+10000))- 1)) 10000))*10000))))):=⟨_,rfl⟩;replace H:(aH.l0 Nb aeg l1 a2 a3 (wrap64 (Int.tdiv (wrap64 ((wrap64 ((wrap64 (-(wrap64 ((wrap64 ((rd aU (jU))- bU))- (wrap64 (a3*(rd l1 fA)))))))+10000))- 1)) 10000)) (wrap64 (fA+1)))=some r:=zY WM H;have afy:=zM WM;clear WM;have H':=zM H;clear H;obtain⟨ajr,acd,acu⟩:=Kd.fO bF.out;subst acu;have xN:0≤((jU):Int):=zD;have xQ:(jU)<(aU.length:Int):=zD;obtain⟨UJ,Ob,sK⟩:=Kd.dM (Kd.dA bF.out).2.2 (jU) xN xQ;cases Ob;replace xN:=eq_true xN;replace xQ:=eq_true xQ;have OT:0≤(fA:Int):=zD;have Pg:fA<(l1.length:Int):=zD;obtain⟨agd,ack,ZO⟩:=Kd.dM (Kd.o7 HR1.out HK.out) fA OT Pg;cases ack;replace OT:=eq_true OT;replace Pg:=eq_true Pg;have SG:0≤((jU):Int):=zD;have SV:((jU):Int)<((aU.length:Int):Int):=zD;obtain⟨Cf,akL,Vo,VW,acC,akJ,Ub⟩:=Kd.jf bF.out (by omega)
           (first|cases Vo|(injection Vo with ea_ en_ ec_;(first|subst ea_|(injection ea_ with ea_;subst ea_));subst ec_;clear en_))
           have YX:=zM VW;have ajJ:=zM Ub;clear VW acC Ub;have ajX:=zM (show(iG Cf∨w.heap.size≤Cf)from(bF.out.1 _ rfl));try simp only[add_plain]at sK
           obtain⟨adf,acQ⟩:=Kd.fE 0 bF.out ((jU):Int) SG SV;replace SG:=eq_true SG;replace SV:=eq_true SV;have Ny:=Kd.fJ bF.out ((jU):Int) (wrap64 ((wrap64 ((wrap64 ((rd aU (jU))- bU))- (wrap64 (a3*(rd l1 fA)))))+(wrap64 ((wrap64 (Int.tdiv (wrap64 ((wrap64 ((wrap64 (-(wrap64 ((wrap64 ((rd aU (jU))- bU))- (wrap64 (a3*(rd l1 fA)))))))+10000))- 1)) 10000))*10000))));go_wp2_with (first|((with_reducible refine dN (t:=3) (p:=57) rfl ?_);refine dE (t:=3) (p:=57) (v:=?vo_w17) (w1:=(wc.setCell ⟨Cf,((jU):Int).toNat,none⟩ (.int .i64 (wrap64 ((wrap64 ((wrap64 ((rd aU (jU))- bU))- (wrap64 (a3*(rd l1 fA)))))+(wrap64 ((wrap64 (Int.tdiv (wrap64 ((wrap64 ((wrap64 (-(wrap64 ((wrap64 ((rd aU (jU))- bU))- (wrap64 (a3*(rd l1 fA)))))))+10000))- 1)) 10000))*10000))))))) ?hg ?ho ?hn ?hr ?_;(case ho=>rfl);(case hg=>rfl);(case hn=>rfl);(case hr=>first|(go_simp;done)|(go_simp;rfl));intro w17 hw;have hg:wc.grownBy w17 (some Cf):=(by rw[hw];exact Ny.2);have je:Kd.R (Kd.int .i64) 3 w17 w0.heap.size (fun k_=>(iG k_∨w.heap.size≤k_)) (.slice (some ⟨Cf,0,none⟩) aU.length acd) aeg:=(by rw[hw,afy.out];exact Ny.1);clear Ny;have dI:=zM (je);have dG:=zM ((by rw[hw];exact dm (HB.out) YX.out:Below w0.heap.size w0 w17));have fQ:=zM (Kept.gq (S:=(fun k_=>iG k_)) hg (by repeat(first|(with_reducible first|exact HK.out|apply Kept.alloc|apply Kept.drewN|apply Kept.drew)|exact HK.out)) (fun k_ e_=>(bF.out.1 k_ e_)));clear bF;clear HB;clear HK;have bF:=dI;have HB:=dG;have HK:=fQ;clear dI dG fQ;clear hg hw je));go_roundg Nb
           case measure=>have:=fM.out;have:=HJ4.out;omega
           case rel=>exact⟨(aeg),(wrap64 (Int.tdiv (wrap64 ((wrap64 ((wrap64 (-(wrap64 ((wrap64 ((rd aU (jU))- bU))- (wrap64 (a3*(rd l1 fA)))))))+10000))- 1)) 10000)),(wrap64 (fA+1)),(by first|rfl|(simp;done)|(simp only[←Wh]<;>(first|rfl|simp))|(simp[*];done)),zR,H',⟨by have:=fM.out;have:=HJ4.out;omega⟩,⟨zO bF.out⟩,⟨zK⟩,⟨zB⟩⟩
          ·rw[if_neg c13]at H;have oK:=zF c13;clear c13;obtain⟨aeh,WN⟩:∃y_:List Int,y_=(aU.set ((jU):Int).toNat (wrap64 ((wrap64 ((rd aU (jU))- bU))- (wrap64 (a3*(rd l1 fA)))))):=⟨_,rfl⟩;replace H:(aH.l0 Nb aeh l1 a2 a3 0 (wrap64 (fA+1)))=some r:=zY WN H;have afz:=zM WN;clear WN;have H':=zM H;clear H;obtain⟨aju,Zh,acw⟩:=Kd.fO bF.out;subst acw;have xN:0≤((jU):Int):=zD;have xQ:(jU)<(aU.length:Int):=zD;obtain⟨UJ,Ob,sK⟩:=Kd.dM (Kd.dA bF.out).2.2 (jU) xN xQ;cases Ob;replace xN:=eq_true xN;replace xQ:=eq_true xQ;have OT:0≤(fA:Int):=zD;have Pg:fA<(l1.length:Int):=zD;obtain⟨agd,ack,ZO⟩:=Kd.dM (Kd.o7 HR1.out HK.out) fA OT Pg;cases ack;replace OT:=eq_true OT;replace Pg:=eq_true Pg;have p18:0≤((jU):Int):=zD;have q18:((jU):Int)<((aU.length:Int):Int):=zD;obtain⟨VZ,agv,Zu,agP,alc,aqJ,aeS⟩:=Kd.jf bF.out (by omega)
           (first|cases Zu|(injection Zu with ea_ en_ ec_;(first|subst ea_|(injection ea_ with ea_;subst ea_));subst ec_;clear en_))
           have ajF:=zM agP;have aq3:=zM aeS;clear agP alc aeS;have ajZ:=zM (show(iG VZ∨w.heap.size≤VZ)from(bF.out.1 _ rfl));try simp only[add_plain]at sK
           obtain⟨adg,acR⟩:=Kd.fE 0 bF.out ((jU):Int) p18 q18;replace p18:=eq_true p18;replace q18:=eq_true q18;have Nz:=Kd.fJ bF.out ((jU):Int) (wrap64 ((wrap64 ((rd aU (jU))- bU))- (wrap64 (a3*(rd l1 fA)))));go_wp2_with (first|((with_reducible refine dN (t:=3) (p:=57) rfl ?_);refine dE (t:=3) (p:=57) (v:=?vo_w21) (w1:=(wc.setCell ⟨VZ,((jU):Int).toNat,none⟩ (.int .i64 (wrap64 ((wrap64 ((rd aU (jU))- bU))- (wrap64 (a3*(rd l1 fA)))))))) ?hg ?ho ?hn ?hr ?_;(case ho=>rfl);(case hg=>rfl);(case hn=>rfl);(case hr=>first|(go_simp;done)|(go_simp;rfl));intro YQ hw;have hg:wc.grownBy YQ (some VZ):=(by rw[hw];exact Nz.2);have je:Kd.R (Kd.int .i64) 3 YQ w0.heap.size (fun k_=>(iG k_∨w.heap.size≤k_)) (.slice (some ⟨VZ,0,none⟩) aU.length Zh) aeh:=(by rw[hw,afz.out];exact Nz.1);clear Nz;have dI:=zM (je);have dG:=zM ((by rw[hw];exact dm (HB.out) ajF.out:Below w0.heap.size w0 YQ));have fQ:=zM (Kept.gq (S:=(fun k_=>iG k_)) hg (by repeat(first|(with_reducible first|exact HK.out|apply Kept.alloc|apply Kept.drewN|apply Kept.drew)|exact HK.out)) (fun k_ e_=>(bF.out.1 k_ e_)));clear bF;clear HB;clear HK;have bF:=dI;have HB:=dG;have HK:=fQ;clear dI dG fQ;clear hg hw je));go_roundg Nb
           case measure=>have:=fM.out;have:=HJ4.out;omega
           case rel=>exact⟨(aeh),(0),(wrap64 (fA+1)),zR,zR,H',⟨by have:=fM.out;have:=HJ4.out;omega⟩,⟨zO bF.out⟩,⟨zK⟩,⟨zB⟩⟩
         ·rw[if_neg c12]at H;exact absurd H (by simp)
        ·rw[if_neg c11]at H;have lL:=zF c11;clear c11
         by_cases UX:(wrap64 ((rd aU (jU))- bU))<0
         ·rw[if_pos UX]at H;have ab4:=zT UX;clear UX;obtain⟨aei,WO⟩:∃y_:List Int,y_=(aU.set ((jU):Int).toNat (wrap64 ((wrap64 ((rd aU (jU))- bU))+(wrap64 ((wrap64 (Int.tdiv (wrap64 ((wrap64 ((wrap64 (-(wrap64 ((rd aU (jU))- bU))))+10000))- 1)) 10000))*10000))))):=⟨_,rfl⟩;replace H:(aH.l0 Nb aei l1 a2 a3 (wrap64 (Int.tdiv (wrap64 ((wrap64 ((wrap64 (-(wrap64 ((rd aU (jU))- bU))))+10000))- 1)) 10000)) (wrap64 (fA+1)))=some r:=zY WO H;have afA:=zM WO;clear WO;have H':=zM H;clear H;obtain⟨ajw,U9,acx⟩:=Kd.fO bF.out;subst acx;have xN:0≤((jU):Int):=zD;have xQ:(jU)<(aU.length:Int):=zD;obtain⟨UJ,Ob,sK⟩:=Kd.dM (Kd.dA bF.out).2.2 (jU) xN xQ;cases Ob;replace xN:=eq_true xN;replace xQ:=eq_true xQ;have YP:0≤((jU):Int):=zD;have q23:((jU):Int)<((aU.length:Int):Int):=zD;obtain⟨xE,akM,Vp,VX,acD,akK,Uc⟩:=Kd.jf bF.out (by omega)
          (first|cases Vp|(injection Vp with ea_ en_ ec_;(first|subst ea_|(injection ea_ with ea_;subst ea_));subst ec_;clear en_))
          have TY:=zM VX;have ajK:=zM Uc;clear VX acD Uc;have ak1:=zM (show(iG xE∨w.heap.size≤xE)from(bF.out.1 _ rfl));try simp only[add_plain]at sK
          obtain⟨xH,xG⟩:=Kd.fE 0 bF.out ((jU):Int) YP q23;replace YP:=eq_true YP;replace q23:=eq_true q23;have vY:=Kd.fJ bF.out ((jU):Int) (wrap64 ((wrap64 ((rd aU (jU))- bU))+(wrap64 ((wrap64 (Int.tdiv (wrap64 ((wrap64 ((wrap64 (-(wrap64 ((rd aU (jU))- bU))))+10000))- 1)) 10000))*10000))));go_wp2_with (first|((with_reducible refine dN (t:=3) (p:=57) rfl ?_);refine dE (t:=3) (p:=57) (v:=?vo_w26) (w1:=(wc.setCell ⟨xE,((jU):Int).toNat,none⟩ (.int .i64 (wrap64 ((wrap64 ((rd aU (jU))- bU))+(wrap64 ((wrap64 (Int.tdiv (wrap64 ((wrap64 ((wrap64 (-(wrap64 ((rd aU (jU))- bU))))+10000))- 1)) 10000))*10000))))))) ?hg ?ho ?hn ?hr ?_;(case ho=>rfl);(case hg=>rfl);(case hn=>rfl);(case hr=>first|(go_simp;done)|(go_simp;rfl));intro PT hw;have hg:wc.grownBy PT (some xE):=(by rw[hw];exact vY.2);have je:Kd.R (Kd.int .i64) 3 PT w0.heap.size (fun k_=>(iG k_∨w.heap.size≤k_)) (.slice (some ⟨xE,0,none⟩) aU.length U9) aei:=(by rw[hw,afA.out];exact vY.1);clear vY;have dI:=zM (je);have dG:=zM ((by rw[hw];exact dm (HB.out) TY.out:Below w0.heap.size w0 PT));have fQ:=zM (Kept.gq (S:=(fun k_=>iG k_)) hg (by repeat(first|(with_reducible first|exact HK.out|apply Kept.alloc|apply Kept.drewN|apply Kept.drew)|exact HK.out)) (fun k_ e_=>(bF.out.1 k_ e_)));clear bF;clear HB;clear HK;have bF:=dI;have HB:=dG;have HK:=fQ;clear dI dG fQ;clear hg hw je));go_roundg Nb
          case measure=>have:=fM.out;have:=HJ4.out;omega
          case rel=>exact⟨(aei),(wrap64 (Int.tdiv (wrap64 ((wrap64 ((wrap64 (-(wrap64 ((rd aU (jU))- bU))))+10000))- 1)) 10000)),(wrap64 (fA+1)),(by first|rfl|(simp;done)|(simp only[←Wh]<;>(first|rfl|simp))|(simp[*];done)),zR,H',⟨by have:=fM.out;have:=HJ4.out;omega⟩,⟨zO bF.out⟩,⟨zK⟩,⟨zB⟩⟩
         ·rw[if_neg UX]at H;have ab4:=zF UX;clear UX;obtain⟨aej,WQ⟩:∃y_:List Int,y_=(aU.set ((jU):Int).toNat (wrap64 ((rd aU (jU))- bU))):=⟨_,rfl⟩;replace H:(aH.l0 Nb aej l1 a2 a3 0 (wrap64 (fA+1)))=some r:=zY WQ H;have afB:=zM WQ;clear WQ;have H':=zM H;clear H;obtain⟨YS,Va,acy⟩:=Kd.fO bF.out;subst acy;have xN:0≤((jU):Int):=zD;have xQ:(jU)<(aU.length:Int):=zD;obtain⟨UJ,Ob,sK⟩:=Kd.dM (Kd.dA bF.out).2.2 (jU) xN xQ;cases Ob;replace xN:=eq_true xN;replace xQ:=eq_true xQ;have p27:0≤((jU):Int):=zD;have q27:((jU):Int)<((aU.length:Int):Int):=zD;obtain⟨V3,aqQ,agz,agS,alf,aqM,aeV⟩:=Kd.jf bF.out (by omega)
          (first|cases agz|(injection agz with ea_ en_ ec_;(first|subst ea_|(injection ea_ with ea_;subst ea_));subst ec_;clear en_))
          have ajH:=zM agS;have aq6:=zM aeV;clear agS alf aeV;have ak2:=zM (show(iG V3∨w.heap.size≤V3)from(bF.out.1 _ rfl));try simp only[add_plain]at sK
          obtain⟨amf,alF⟩:=Kd.fE 0 bF.out ((jU):Int) p27 q27;replace p27:=eq_true p27;replace q27:=eq_true q27;have abP:=Kd.fJ bF.out ((jU):Int) (wrap64 ((rd aU (jU))- bU));go_wp2_with (first|((with_reducible refine dN (t:=3) (p:=57) rfl ?_);refine dE (t:=3) (p:=57) (v:=?vo_w30) (w1:=(wc.setCell ⟨V3,((jU):Int).toNat,none⟩ (.int .i64 (wrap64 ((rd aU (jU))- bU))))) ?hg ?ho ?hn ?hr ?_;(case ho=>rfl);(case hg=>rfl);(case hn=>rfl);(case hr=>first|(go_simp;done)|(go_simp;rfl));intro w30 hw;have hg:wc.grownBy w30 (some V3):=(by rw[hw];exact abP.2);have je:Kd.R (Kd.int .i64) 3 w30 w0.heap.size (fun k_=>(iG k_∨w.heap.size≤k_)) (.slice (some ⟨V3,0,none⟩) aU.length Va) aej:=(by rw[hw,afB.out];exact abP.1);clear abP;have dI:=zM (je);have dG:=zM ((by rw[hw];exact dm (HB.out) ajH.out:Below w0.heap.size w0 w30));have fQ:=zM (Kept.gq (S:=(fun k_=>iG k_)) hg (by repeat(first|(with_reducible first|exact HK.out|apply Kept.alloc|apply Kept.drewN|apply Kept.drew)|exact HK.out)) (fun k_ e_=>(bF.out.1 k_ e_)));clear bF;clear HB;clear HK;have bF:=dI;have HB:=dG;have HK:=fQ;clear dI dG fQ;clear hg hw je));go_roundg Nb
          case measure=>have:=fM.out;have:=HJ4.out;omega
          case rel=>exact⟨(aej),(0),(wrap64 (fA+1)),zR,zR,H',⟨by have:=fM.out;have:=HJ4.out;omega⟩,⟨zO bF.out⟩,⟨zK⟩,⟨zB⟩⟩
       ·rw[if_neg c10]at H;exact absurd H (by simp)
      ·rw[if_neg c9]at H;exact absurd H (by simp)
     ·replace c7:=Bool.eq_false_iff.mpr c7;subst c7;have H1:(some aU)=some r:=by rw[if_neg (show¬(false=true)by decide)]at H;exact H
      clear H;have H:=H1;clear H1;obtain rfl:=Option.some.inj H;go_wp2
      first|go_end0|((try simp only[Exit.inBlock,Exit.then]);refine bodyPost_ret (results_none rfl _ _ _) rfl ?_)
      exact⟨by first|rfl|(simp[bg,bn]<;>rfl)|(simp[*,bg,bn]<;>rfl),zO bF.out,zB,zK⟩
end Go.Proofs.YthbdjmopolpjmaaGreatDoor.F
