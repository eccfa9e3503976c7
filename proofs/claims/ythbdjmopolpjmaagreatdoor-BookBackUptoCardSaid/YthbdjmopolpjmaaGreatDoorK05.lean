/- Part 5 of the proof. -/
import Derived.Test.YthbdjmopolpjmaaGreatDoorK01
set_option linter.unusedVariables false
set_option linter.unusedSimpArgs false
set_option maxHeartbeats 8000000
set_option maxRecDepth 100000
namespace Go.Proofs.YthbdjmopolpjmaaGreatDoor.F
open Go.RowKit Go.Proofs.YthbdjmopolpjmaaGreatDoorW.PrintWords Go.Proofs.YthbdjmopolpjmaaGreatDoorW.PrintLast Go.Proofs.YthbdjmopolpjmaaGreatDoorW.PrintMore
attribute [local go_sem] max2_int min2_int max_two min_two max_three min_three max_four min_four
mutual
def aW.l0:Nat→List Int→List Int→Int→Int→Int→Int→List Int→Int→Int→Option (Int×List Int)
 |0,_,_,_,_,_,_,_,_,_=>none
 |k+1,x0,x1,x5,x6,x7,x8,x39,x40,x41=>if x41<x40 then(if 0≤x41 then(if x41<(x39.length:Int)then(if x41<(x0.length:Int)then(aW.l0 k (x0.set (x41:Int).toNat ((IntKind.u64.wrap ((IntKind.u64.wrap ((IntKind.u64.wrap (rd x0 x41))- (Go.bits .and .u64 (IntKind.u64.wrap (x7+(IntKind.u64.wrap (x6*(IntKind.u64.wrap (rd x39 x41)))))) 4294967295)))- x8))%4294967296)) x1 x5 x6 ((IntKind.u64.wrap (x7+(IntKind.u64.wrap (x6*(IntKind.u64.wrap (rd x39 x41))))))/4294967296) ((IntKind.u64.wrap ((IntKind.u64.wrap ((IntKind.u64.wrap (rd x0 x41))- (Go.bits .and .u64 (IntKind.u64.wrap (x7+(IntKind.u64.wrap (x6*(IntKind.u64.wrap (rd x39 x41)))))) 4294967295)))- x8))/9223372036854775808) x39 x40 (wrap64 (x41+1)))else(none))else(none))else(none))else(if 0≤x5 then(if x5<(x0.length:Int)then(aW.l1 k (x0.set (x5:Int).toNat ((IntKind.u64.wrap ((IntKind.u64.wrap ((IntKind.u64.wrap (rd x0 x5))- x7))- x8))%4294967296)) x1 x5 x6 (((IntKind.u64.wrap ((IntKind.u64.wrap ((IntKind.u64.wrap (rd x0 x5))- x7))- x8))/9223372036854775808)==1))else(none))else(none))
def aW.l1:Nat→List Int→List Int→Int→Int→Bool→Option (Int×List Int)
 |0,_,_,_,_,_=>none
 |k+1,x0,x1,x5,x6,Hg=>if Hg=true then(aW.l2 k x0 x1 x5 x6 0 x1 (x1.length:Int) 0)else(some ((x6)%4294967296,x0))
def aW.l2:Nat→List Int→List Int→Int→Int→Int→List Int→Int→Int→Option (Int×List Int)
 |0,_,_,_,_,_,_,_,_=>none
 |k+1,x0,x1,x5,x6,x7,x92,x93,YR=>if YR<x93 then(if 0≤YR then(if YR<(x92.length:Int)then(if YR<(x0.length:Int)then(aW.l2 k (x0.set (YR:Int).toNat ((IntKind.u64.wrap (x7+(IntKind.u64.wrap ((IntKind.u64.wrap (rd x0 YR))+(IntKind.u64.wrap (rd x92 YR))))))%4294967296)) x1 x5 x6 ((IntKind.u64.wrap (x7+(IntKind.u64.wrap ((IntKind.u64.wrap (rd x0 YR))+(IntKind.u64.wrap (rd x92 YR))))))/4294967296) x92 x93 (wrap64 (YR+1)))else(none))else(none))else(none))else(if 0≤x5 then(if x5<(x0.length:Int)then(aW.l1 k (x0.set (x5:Int).toNat ((IntKind.u64.wrap (x7+(IntKind.u64.wrap (rd x0 x5))))%4294967296)) x1 x5 (IntKind.u64.wrap (x6- 1)) (((IntKind.u64.wrap (x7+(IntKind.u64.wrap (rd x0 x5))))/4294967296)==0))else(none))else(none))
end
def aW.f (k:Nat)(l0:List Int)(l1:List Int):Option (Int×List Int):=if 0≤(l1.length:Int)then(if(l1.length:Int)<(l0.length:Int)then(if 0≤(wrap64 ((l1.length:Int)- 1))then(if(wrap64 ((l1.length:Int)- 1))<(l0.length:Int)then(if(wrap64 ((l1.length:Int)- 1))<(l1.length:Int)then(if(IntKind.u64.wrap (rd l1 (wrap64 ((l1.length:Int)- 1))))=0 then(none)else(aW.l0 k l0 l1 (l1.length:Int) (mn (IntKind.u64.wrap (Int.tdiv (Go.bits .or .u64 (IntKind.u64.wrap ((IntKind.u64.wrap (rd l0 (l1.length:Int)))*4294967296)) (IntKind.u64.wrap (rd l0 (wrap64 ((l1.length:Int)- 1))))) (IntKind.u64.wrap (rd l1 (wrap64 ((l1.length:Int)- 1)))))) 4294967295) 0 0 l1 (l1.length:Int) 0))else(none))else(none))else(none))else(none))else(none)
theorem aW.cO:∀k,(∀y0 y1 y2 y3 y4 y5 y6 y7 y8,bT (aW.l0 k y0 y1 y2 y3 y4 y5 y6 y7 y8) (aW.l0 (k+1) y0 y1 y2 y3 y4 y5 y6 y7 y8))∧(∀y0 y1 y2 y3 y4,bT (aW.l1 k y0 y1 y2 y3 y4) (aW.l1 (k+1) y0 y1 y2 y3 y4))∧(∀y0 y1 y2 y3 y4 y5 y6 y7,bT (aW.l2 k y0 y1 y2 y3 y4 y5 y6 y7) (aW.l2 (k+1) y0 y1 y2 y3 y4 y5 y6 y7))
 |0=>⟨fun _ _ _ _ _ _ _ _ _ r h=>by simp[aW.l0]at h,fun _ _ _ _ _ r h=>by simp[aW.l1]at h,fun _ _ _ _ _ _ _ _ r h=>by simp[aW.l2]at h⟩
 |k+1=>by
  obtain⟨gU,ih1,ih2⟩:=aW.cO k;refine⟨?_,?_,?_⟩
  ·intro y0 y1 y2 y3 y4 y5 y6 y7 y8;unfold aW.l0
   repeat' first
   |exact gU _ _ _ _ _ _ _ _ _
   |exact ih1 _ _ _ _ _
   |exact ih2 _ _ _ _ _ _ _ _
   |exact bT.refl _
   |exact bT.none _
   |refine bT.ite ?_ ?_
   |refine bT.bind ?_ (fun _=>?_)
  ·intro y0 y1 y2 y3 y4;unfold aW.l1
   repeat' first
   |exact gU _ _ _ _ _ _ _ _ _
   |exact ih1 _ _ _ _ _
   |exact ih2 _ _ _ _ _ _ _ _
   |exact bT.refl _
   |exact bT.none _
   |refine bT.ite ?_ ?_
   |refine bT.bind ?_ (fun _=>?_)
  ·intro y0 y1 y2 y3 y4 y5 y6 y7;unfold aW.l2
   repeat' first
   |exact gU _ _ _ _ _ _ _ _ _
   |exact ih1 _ _ _ _ _
   |exact ih2 _ _ _ _ _ _ _ _
   |exact bT.refl _
   |exact bT.none _
   |refine bT.ite ?_ ?_
   |refine bT.bind ?_ (fun _=>?_)
theorem aW.mono:∀a0 a1 k,bT (aW.f k a0 a1) (aW.f (k+1) a0 a1):=by
 intro a0 a1 k;obtain⟨gU,ih1,ih2⟩:=aW.cO k;unfold aW.f
 repeat' first
   |exact gU _ _ _ _ _ _ _ _ _
   |exact ih1 _ _ _ _ _
   |exact ih2 _ _ _ _ _ _ _ _
   |exact bT.refl _
   |exact bT.none _
   |refine bT.ite ?_ ?_
   |refine bT.bind ?_ (fun _=>?_)
theorem aW.calls (k:Nat)(iG:Nat→Prop)(iQ:Value)(l0:List Int)(A1:Option Addr)(c1:Nat)(l1:List Int)(r1:Int)(r2:List Int)(w0 w:World)(hB:Below w0.heap.size w0 w)(ho0:Kd.R (Kd.int .u32) 131 w w0.heap.size iG iQ l0)(hr1:∀W_,Kept w W_ (fun k_=>iG k_)→Kd.C (Kd.int .u32) W_ A1 l1.length l1)(hc1:l1.length≤c1)(h:aW.f k l0 l1=some (r1,r2)):
  Calls Tryz.prog 209 #[iQ,.slice A1 l1.length c1] w fun e w'=>e= .returned (.int .u32 r1)∧Kd.R (Kd.int .u32) 131 w' w0.heap.size (fun k_=>(iG k_∨w.heap.size≤k_)) iQ r2∧Below w0.heap.size w0 w'∧Kept w w' (fun k_=>iG k_):=by
 have zC:=zM (show Kd.R (Kd.int .u32) 131 w w0.heap.size (fun k_=>(iG k_∨w.heap.size≤k_)) iQ l0 from Kd.gI ho0 (fun k_ hk=>(.inl hk)));have HR1:=zM hr1;have MV:=zM hc1;clear hr1 hc1;have HK:=zM (Kept.refl w (fun k_=>iG k_));have HW0:=zM hB.size;have HB:=zM hB;clear hB;have H:(if 0≤(l1.length:Int)then(if(l1.length:Int)<(l0.length:Int)then(if 0≤(wrap64 ((l1.length:Int)- 1))then(if(wrap64 ((l1.length:Int)- 1))<(l0.length:Int)then(if(wrap64 ((l1.length:Int)- 1))<(l1.length:Int)then(if(IntKind.u64.wrap (rd l1 (wrap64 ((l1.length:Int)- 1))))=0 then(none)else(aW.l0 k l0 l1 (l1.length:Int) (mn (IntKind.u64.wrap (Int.tdiv (Go.bits .or .u64 (IntKind.u64.wrap ((IntKind.u64.wrap (rd l0 (l1.length:Int)))*4294967296)) (IntKind.u64.wrap (rd l0 (wrap64 ((l1.length:Int)- 1))))) (IntKind.u64.wrap (rd l1 (wrap64 ((l1.length:Int)- 1)))))) 4294967295) 0 0 l1 (l1.length:Int) 0))else(none))else(none))else(none))else(none))else(none))=some (r1,r2):=h;clear h
 by_cases c3:0≤(l1.length:Int)
 ·rw[if_pos c3]at H;have iI:=zT c3;have kW:decide (0≤l1.length)=true:=decide_eq_true (by omega);clear c3
  by_cases c4:(l1.length:Int)<(l0.length:Int)
  ·rw[if_pos c4]at H;have ig:=zT c4;have oQ:decide (l1.length<l0.length)=true:=decide_eq_true (Int.ofNat_lt.mp c4);clear c4;obtain⟨rC,Oq⟩:=zI (wrap64 ((l1.length:Int)- 1));replace H:(if 0≤(rC)then(if(rC)<(l0.length:Int)then(if(rC)<(l1.length:Int)then(if(IntKind.u64.wrap (rd l1 (rC)))=0 then(none)else(aW.l0 k l0 l1 (l1.length:Int) (mn (IntKind.u64.wrap (Int.tdiv (Go.bits .or .u64 (IntKind.u64.wrap ((IntKind.u64.wrap (rd l0 (l1.length:Int)))*4294967296)) (IntKind.u64.wrap (rd l0 (rC)))) (IntKind.u64.wrap (rd l1 (rC))))) 4294967295) 0 0 l1 (l1.length:Int) 0))else(none))else(none))else(none))=some (r1,r2):=by first|(rw[Oq]at H;exact H)|(simp only[Oq]at H⊢;exact H)
   have ahc:(IntKind.i64.wrap ((l1.length:Int)- 1))=rC:=(dL _).trans Oq
   by_cases c6:0≤(rC)
   ·rw[if_pos c6]at H;have iP:=zT c6;clear c6
    by_cases c7:(rC)<(l0.length:Int)
    ·rw[if_pos c7]at H;have lZ:=zT c7;clear c7
     by_cases c8:(rC)<(l1.length:Int)
     ·rw[if_pos c8]at H;have nP:=zT c8;clear c8
      by_cases c9:(IntKind.u64.wrap (rd l1 (rC)))=0
      ·rw[if_pos c9]at H;exact absurd H (by simp)
      ·rw[if_neg c9]at H;have qL:((IntKind.u64.wrap (rd l1 (rC)))==0)=false:=beq_eq_false_iff_ne.mpr c9;have UZ:((IntKind.u64.wrap (rd l1 (rC))) !=0)=true:=bne_iff_ne.mpr c9;obtain⟨iq,kY⟩:=zI (mn (IntKind.u64.wrap (Int.tdiv (Go.bits .or .u64 (IntKind.u64.wrap ((IntKind.u64.wrap (rd l0 (l1.length:Int)))*4294967296)) (IntKind.u64.wrap (rd l0 (rC)))) (IntKind.u64.wrap (rd l1 (rC))))) 4294967295);replace H:(aW.l0 k l0 l1 (l1.length:Int) iq 0 0 l1 (l1.length:Int) 0)=some (r1,r2):=by first|(rw[kY]at H;exact H)|(simp only[kY]at H⊢;exact H)
       have Oo:(if 4294967295<(IntKind.u64.wrap (Int.tdiv (Go.bits .or .u64 (IntKind.u64.wrap ((IntKind.u64.wrap (rd l0 (l1.length:Int)))*4294967296)) (IntKind.u64.wrap (rd l0 (rC)))) (IntKind.u64.wrap (rd l1 (rC)))))then 4294967295 else(IntKind.u64.wrap (Int.tdiv (Go.bits .or .u64 (IntKind.u64.wrap ((IntKind.u64.wrap (rd l0 (l1.length:Int)))*4294967296)) (IntKind.u64.wrap (rd l0 (rC)))) (IntKind.u64.wrap (rd l1 (rC))))))=iq:=kY;have H':=zM H;clear H;obtain⟨aeI,uy,Vm⟩:=Kd.fO zC.out;subst Vm;have SH:0≤((l1.length:Int):Int):=zD;have O5:(l1.length:Int)<(l0.length:Int):=zD;obtain⟨ag2,e160,vI⟩:=Kd.dM (Kd.dA zC.out).2.2 (l1.length:Int) SH O5;cases e160
       (try simp only[Go.IntWalk.toNatUp]at vI)
       replace SH:=eq_true SH;replace O5:=eq_true O5;have SI:0≤((rC):Int):=zD;have SX:(rC)<(l0.length:Int):=zD;obtain⟨ag3,e161,yM⟩:=Kd.dM (Kd.dA zC.out).2.2 (rC) SI SX;obtain rfl:ag2=ag3:=(by injection e161);replace SI:=eq_true SI;replace SX:=eq_true SX;have SK:0≤((rC):Int):=zD;have SY:(rC)<(l1.length:Int):=zD;obtain⟨UI,e162,IG⟩:=Kd.dM (Kd.o7 HR1.out HK.out) (rC) SK SY;cases e162;replace SK:=eq_true SK;replace SY:=eq_true SY;obtain⟨jb,aqO,agy,al6,ala,aqH,ajT⟩:=Kd.jf zC.out (by have:=of_eq_true O5;omega)
       (first|cases agy|(injection agy with ea_ en_ ec_;(first|subst ea_|(injection ea_ with ea_;subst ea_));subst ec_;clear en_))
       clear al6 ala ajT;try simp only[add_plain]at vI
       try simp only[add_plain]at yM
       go_enter Tryz.func209,Tryz.ntmps209;go_wp2
       repeat(go_quiet (fail);try go_wp2)
       go_loopg [7,8,41] k (fun kq v7 v8 v41 w'=>∃(aU:List Int) (dO:Int) (bU:Int) (eX:Int),v7= .int .u64 dO∧v8= .int .u64 bU∧v41= .int .i64 eX∧Aside0 (aW.l0 kq aU l1 (l1.length:Int) iq dO bU l1 (l1.length:Int) eX=some (r1,r2))∧Aside0 (kq≤k)∧Aside0 (Kd.R (Kd.int .u32) 131 w' w0.heap.size (fun k_=>(iG k_∨w.heap.size≤k_)) (.slice (some ⟨jb,0,none⟩) l0.length uy) aU)∧Aside0 (Kept w w' (fun k_=>iG k_))∧Aside0 (Below w0.heap.size w0 w'))
       case atStart=>exact⟨(l0),(0),(0),(0),zR,zR,zR,H',⟨Nat.le_refl _⟩,⟨zO zC.out⟩,⟨zK⟩,⟨zB⟩⟩
       case round=>
        clear H';try clear c1
        try clear p1
        try clear q1
        try clear hx1
        try clear c2
        try clear p2
        try clear c3
        try clear iI
        try clear kW
        try clear c4
        try clear ig
        try clear oQ
        try clear c6
        try clear iP
        try clear p6
        try clear c7
        try clear lZ
        try clear c8
        try clear nP
        try clear c9
        try clear qL
        try clear UZ
        try clear vI
        try clear yM
        try clear IG
        try clear SH
        try clear SI
        try clear SK
        try clear O5
        try clear SX
        try clear SY
        obtain⟨aU,dO,bU,eX,rfl,rfl,rfl,HA,fM,bF,HK,HB⟩:=hrel;have jr:=(Kd.dA bF.out).1;rw[jr]at bF
        (try simp only[jr])
        cases gk with
        |zero=>exact absurd HA.out (by simp[aW.l0])
        |succ k1=>
         have H:=HA.out;clear HA;simp only[aW.l0]at H
         by_cases c12:eX<(l1.length:Int)
         ·rw[if_pos c12]at H;have rf:=zT c12;clear c12
          by_cases c13:0≤eX
          ·rw[if_pos c13]at H;have oK:=zT c13;clear c13
           by_cases c14:eX<(l1.length:Int)
           ·rw[if_pos c14]at H;have rq:=zT c14;clear c14
            by_cases c15:eX<(aU.length:Int)
            ·rw[if_pos c15]at H;have Bc:=zT c15;clear c15;obtain⟨Yx,Wx⟩:∃y_:List Int,y_=(aU.set (eX:Int).toNat ((IntKind.u64.wrap ((IntKind.u64.wrap ((IntKind.u64.wrap (rd aU eX))- (Go.bits .and .u64 (IntKind.u64.wrap (dO+(IntKind.u64.wrap (iq*(IntKind.u64.wrap (rd l1 eX)))))) 4294967295)))- bU))%4294967296)):=⟨_,rfl⟩;replace H:(aW.l0 k1 Yx l1 (l1.length:Int) iq ((IntKind.u64.wrap (dO+(IntKind.u64.wrap (iq*(IntKind.u64.wrap (rd l1 eX))))))/4294967296) ((IntKind.u64.wrap ((IntKind.u64.wrap ((IntKind.u64.wrap (rd aU eX))- (Go.bits .and .u64 (IntKind.u64.wrap (dO+(IntKind.u64.wrap (iq*(IntKind.u64.wrap (rd l1 eX)))))) 4294967295)))- bU))/9223372036854775808) l1 (l1.length:Int) (wrap64 (eX+1)))=some (r1,r2):=zY Wx H;have Ut:=zM Wx;clear Wx;have H':=zM H;clear H;have XN:0≤(eX:Int):=zD;have XY:eX<(l1.length:Int):=zD;obtain⟨ag4,akU,Qu⟩:=Kd.dM (Kd.o7 HR1.out HK.out) eX XN XY;obtain rfl:UI=ag4:=(by injection akU);replace XN:=eq_true XN;replace XY:=eq_true XY;have XO:0≤(eX:Int):=zD;have XZ:eX<(aU.length:Int):=zD;obtain⟨ag5,akV,II⟩:=Kd.dM (Kd.dA bF.out).2.2 eX XO XZ;obtain rfl:(⟨jb,0,none⟩:Addr)=ag5:=(by injection akV);replace XO:=eq_true XO;replace XZ:=eq_true XZ;have p16:0≤(eX:Int):=zD;have q16:(eX:Int)<((aU.length:Int):Int):=zD;obtain⟨yI,U7,EU,KF,VY,agt,JC⟩:=Kd.jf bF.out (by omega)
             (first|cases EU|(injection EU with ea_ en_ ec_;(first|subst ea_|(injection ea_ with ea_;subst ea_));subst ec_;clear en_))
             have Ho:=zM KF;have aeN:=zM JC;clear KF VY JC;have ajY:=zM (show(iG jb∨w.heap.size≤jb)from(bF.out.1 _ rfl));try simp only[add_plain]at vI
             try simp only[add_plain]at yM
             try simp only[add_plain]at II
             obtain⟨oH,sG⟩:=Kd.fE 0 bF.out (eX:Int) p16 q16
             (try simp only[Int.toNat_natCast]at oH sG)
             replace p16:=eq_true p16;replace q16:=eq_true q16;have vW:=Kd.fJ bF.out (eX:Int) ((IntKind.u64.wrap ((IntKind.u64.wrap ((IntKind.u64.wrap (rd aU eX))- (Go.bits .and .u64 (IntKind.u64.wrap (dO+(IntKind.u64.wrap (iq*(IntKind.u64.wrap (rd l1 eX)))))) 4294967295)))- bU))%4294967296);go_wp2_with (first|((with_reducible refine dN (t:=131) (p:=68) rfl ?_);(try (rw[fU wr];generalize jc:World.drewN wr _=wr;have dI:=zM (Kd.tV jc bF.out);have dG:=zM (lC jc HK.out);have fQ:=zM (iC jc HB.out);clear jc bF HK HB;have bF:=dI;have HK:=dG;have HB:=fQ;clear dI dG fQ;(try (have vW:=Kd.fJ bF.out (eX:Int) ((IntKind.u64.wrap ((IntKind.u64.wrap ((IntKind.u64.wrap (rd aU eX))- (Go.bits .and .u64 (IntKind.u64.wrap (dO+(IntKind.u64.wrap (iq*(IntKind.u64.wrap (rd l1 eX)))))) 4294967295)))- bU))%4294967296)))));refine dE (t:=131) (p:=68) (v:=?vo_w18) (w1:=(wr.setCell ⟨jb,(eX:Int).toNat,none⟩ (.int .u32 ((IntKind.u64.wrap ((IntKind.u64.wrap ((IntKind.u64.wrap (rd aU eX))- (Go.bits .and .u64 (IntKind.u64.wrap (dO+(IntKind.u64.wrap (iq*(IntKind.u64.wrap (rd l1 eX)))))) 4294967295)))- bU))%4294967296)))) ?hg ?ho ?hn ?hr ?_;(case ho=>rfl);(case hg=>rfl);(case hn=>rfl);(case hr=>first|(go_simp;done)|(go_simp;rfl));intro Nh hw;have hg:wr.grownBy Nh (some jb):=(by rw[hw];exact vW.2);have je:Kd.R (Kd.int .u32) 131 Nh w0.heap.size (fun k_=>(iG k_∨w.heap.size≤k_)) (.slice (some ⟨jb,0,none⟩) aU.length uy) Yx:=(by rw[hw,Ut.out];exact vW.1);clear vW;have dI:=zM (je);have dG:=zM ((by rw[hw];exact dm (HB.out) Ho.out:Below w0.heap.size w0 Nh));have fQ:=zM (Kept.gq (S:=(fun k_=>iG k_)) hg (by repeat(first|(with_reducible first|exact HK.out|apply Kept.alloc|apply Kept.drewN|apply Kept.drew)|exact HK.out)) (fun k_ e_=>(bF.out.1 k_ e_)));clear bF;clear HB;clear HK;have bF:=dI;have HB:=dG;have HK:=fQ;clear dI dG fQ;clear hg hw je))
             repeat(go_quiet (first|((with_reducible refine dN (t:=131) (p:=68) rfl ?_);(try (rw[fU wr];generalize jc:World.drewN wr _=wr;have dI:=zM (Kd.tV jc bF.out);have dG:=zM (lC jc HK.out);have fQ:=zM (iC jc HB.out);clear jc bF HK HB;have bF:=dI;have HK:=dG;have HB:=fQ;clear dI dG fQ;(try (have vW:=Kd.fJ bF.out (eX:Int) ((IntKind.u64.wrap ((IntKind.u64.wrap ((IntKind.u64.wrap (rd aU eX))- (Go.bits .and .u64 (IntKind.u64.wrap (dO+(IntKind.u64.wrap (iq*(IntKind.u64.wrap (rd l1 eX)))))) 4294967295)))- bU))%4294967296)))));refine dE (t:=131) (p:=68) (v:=?vo_w18) (w1:=(wr.setCell ⟨jb,(eX:Int).toNat,none⟩ (.int .u32 ((IntKind.u64.wrap ((IntKind.u64.wrap ((IntKind.u64.wrap (rd aU eX))- (Go.bits .and .u64 (IntKind.u64.wrap (dO+(IntKind.u64.wrap (iq*(IntKind.u64.wrap (rd l1 eX)))))) 4294967295)))- bU))%4294967296)))) ?hg ?ho ?hn ?hr ?_;(case ho=>rfl);(case hg=>rfl);(case hn=>rfl);(case hr=>first|(go_simp;done)|(go_simp;rfl));intro Nh hw;have hg:wr.grownBy Nh (some jb):=(by rw[hw];exact vW.2);have je:Kd.R (Kd.int .u32) 131 Nh w0.heap.size (fun k_=>(iG k_∨w.heap.size≤k_)) (.slice (some ⟨jb,0,none⟩) aU.length uy) Yx:=(by rw[hw,Ut.out];exact vW.1);clear vW;have dI:=zM (je);have dG:=zM ((by rw[hw];exact dm (HB.out) Ho.out:Below w0.heap.size w0 Nh));have fQ:=zM (Kept.gq (S:=(fun k_=>iG k_)) hg (by repeat(first|(with_reducible first|exact HK.out|apply Kept.alloc|apply Kept.drewN|apply Kept.drew)|exact HK.out)) (fun k_ e_=>(bF.out.1 k_ e_)));clear bF;clear HB;clear HK;have bF:=dI;have HB:=dG;have HK:=fQ;clear dI dG fQ;clear hg hw je));try go_wp2_with (first|((with_reducible refine dN (t:=131) (p:=68) rfl ?_);(try (rw[fU wr];generalize jc:World.drewN wr _=wr;have dI:=zM (Kd.tV jc bF.out);have dG:=zM (lC jc HK.out);have fQ:=zM (iC jc HB.out);clear jc bF HK HB;have bF:=dI;have HK:=dG;have HB:=fQ;clear dI dG fQ;(try (have vW:=Kd.fJ bF.out (eX:Int) ((IntKind.u64.wrap ((IntKind.u64.wrap ((IntKind.u64.wrap (rd aU eX))- (Go.bits .and .u64 (IntKind.u64.wrap (dO+(IntKind.u64.wrap (iq*(IntKind.u64.wrap (rd l1 eX)))))) 4294967295)))- bU))%4294967296)))));refine dE (t:=131) (p:=68) (v:=?vo_w18) (w1:=(wr.setCell ⟨jb,(eX:Int).toNat,none⟩ (.int .u32 ((IntKind.u64.wrap ((IntKind.u64.wrap ((IntKind.u64.wrap (rd aU eX))- (Go.bits .and .u64 (IntKind.u64.wrap (dO+(IntKind.u64.wrap (iq*(IntKind.u64.wrap (rd l1 eX)))))) 4294967295)))- bU))%4294967296)))) ?hg ?ho ?hn ?hr ?_;(case ho=>rfl);(case hg=>rfl);(case hn=>rfl);(case hr=>first|(go_simp;done)|(go_simp;rfl));intro Nh hw;have hg:wr.grownBy Nh (some jb):=(by rw[hw];exact vW.2);have je:Kd.R (Kd.int .u32) 131 Nh w0.heap.size (fun k_=>(iG k_∨w.heap.size≤k_)) (.slice (some ⟨jb,0,none⟩) aU.length uy) Yx:=(by rw[hw,Ut.out];exact vW.1);clear vW;have dI:=zM (je);have dG:=zM ((by rw[hw];exact dm (HB.out) Ho.out:Below w0.heap.size w0 Nh));have fQ:=zM (Kept.gq (S:=(fun k_=>iG k_)) hg (by repeat(first|(with_reducible first|exact HK.out|apply Kept.alloc|apply Kept.drewN|apply Kept.drew)|exact HK.out)) (fun k_ e_=>(bF.out.1 k_ e_)));clear bF;clear HB;clear HK;have bF:=dI;have HB:=dG;have HK:=fQ;clear dI dG fQ;clear hg hw je)))
             (try simp only[←jr])
             (try simp only[add_plain])
             go_roundg k1
             case measure=>have:=fM.out;omega
             case rel=>exact⟨(Yx),((IntKind.u64.wrap (dO+(IntKind.u64.wrap (iq*(IntKind.u64.wrap (rd l1 eX))))))/4294967296),((IntKind.u64.wrap ((IntKind.u64.wrap ((IntKind.u64.wrap (rd aU eX))- (Go.bits .and .u64 (IntKind.u64.wrap (dO+(IntKind.u64.wrap (iq*(IntKind.u64.wrap (rd l1 eX)))))) 4294967295)))- bU))/9223372036854775808),(wrap64 (eX+1)),(by first|rfl|(simp;done)|(simp only[←kY]<;>(first|rfl|simp))|(simp[*];done)),(by first|rfl|(simp;done)|(simp only[←kY]<;>(first|rfl|simp))|(simp[*];done)),zR,H',⟨by have:=fM.out;omega⟩,⟨by(try simp only[jr]);(with_reducible repeat(first|apply Kd.dC|apply Kd.dD|apply Kd.dR));exact bF.out⟩,⟨zK⟩,⟨zB⟩⟩
            ·rw[if_neg c15]at H;exact absurd H (by simp)
           ·rw[if_neg c14]at H;exact absurd H (by simp)
          ·rw[if_neg c13]at H;exact absurd H (by simp)
         ·rw[if_neg c12]at H;have rf:=zF c12
          (try rw[jr]at rf)
          (try rw[tJ]at rf)
          (try rw[uD]at rf)
          clear c12
          by_cases c19:0≤(l1.length:Int)
          ·rw[if_pos c19]at H;have UU:=zT c19;have UW:decide (0≤l1.length)=true:=decide_eq_true (by omega);clear c19
           by_cases c20:(l1.length:Int)<(aU.length:Int)
           ·rw[if_pos c20]at H;have Qa:=zT c20;have ab3:decide (l1.length<aU.length)=true:=decide_eq_true (Int.ofNat_lt.mp c20);clear c20;obtain⟨y167,hy167⟩:∃y_:List Int,y_=(aU.set ((l1.length:Int):Int).toNat ((IntKind.u64.wrap ((IntKind.u64.wrap ((IntKind.u64.wrap (rd aU (l1.length:Int)))- dO))- bU))%4294967296)):=⟨_,rfl⟩;replace H:(aW.l1 k1 y167 l1 (l1.length:Int) iq (((IntKind.u64.wrap ((IntKind.u64.wrap ((IntKind.u64.wrap (rd aU (l1.length:Int)))- dO))- bU))/9223372036854775808)==1))=some (r1,r2):=zY hy167 H;have Uu:=zM hy167;clear hy167;have H':=zM H;clear H;have SL:0≤((l1.length:Int):Int):=zD;have S9:(l1.length:Int)<(aU.length:Int):=zD;obtain⟨ag6,e166,yN⟩:=Kd.dM (Kd.dA bF.out).2.2 (l1.length:Int) SL S9;obtain rfl:(⟨jb,0,none⟩:Addr)=ag6:=(by injection e166)
            (try simp only[Go.IntWalk.toNatUp]at yN)
            (try simp only[jr]at SL)
            (try simp only[jr]at S9)
            (try simp only[jr]at yN)
            replace SL:=eq_true SL;replace S9:=eq_true S9;have p21:0≤((l1.length:Int):Int):=zD;have q21:((l1.length:Int):Int)<((aU.length:Int):Int):=zD;obtain⟨aro,Zi,Zv,agQ,ald,aqK,aeT⟩:=Kd.jf bF.out (by omega)
            (first|cases Zv|(injection Zv with ea_ en_ ec_;(first|subst ea_|(injection ea_ with ea_;subst ea_));subst ec_;clear en_))
            have Ht:=zM agQ;have aq4:=zM aeT;clear agQ ald aeT;have ak0:=zM (show(iG jb∨w.heap.size≤jb)from(bF.out.1 _ rfl));try simp only[add_plain]at yN
            obtain⟨Ov,acS⟩:=Kd.fE 0 bF.out ((l1.length:Int):Int) p21 q21
            (try simp only[Int.toNat_natCast]at Ov acS)
            replace p21:=eq_true p21;replace q21:=eq_true q21;have vX:=Kd.fJ bF.out ((l1.length:Int):Int) ((IntKind.u64.wrap ((IntKind.u64.wrap ((IntKind.u64.wrap (rd aU (l1.length:Int)))- dO))- bU))%4294967296);go_wp2_with (first|((with_reducible refine dN (t:=131) (p:=85) rfl ?_);(try (rw[fU wr];generalize jc:World.drewN wr _=wr;have dI:=zM (Kd.tV jc bF.out);have dG:=zM (lC jc HK.out);have fQ:=zM (iC jc HB.out);clear jc bF HK HB;have bF:=dI;have HK:=dG;have HB:=fQ;clear dI dG fQ;(try (have vX:=Kd.fJ bF.out ((l1.length:Int):Int) ((IntKind.u64.wrap ((IntKind.u64.wrap ((IntKind.u64.wrap (rd aU (l1.length:Int)))- dO))- bU))%4294967296)))));refine dE (t:=131) (p:=85) (v:=?vo_w23) (w1:=(wr.setCell ⟨jb,((l1.length:Int):Int).toNat,none⟩ (.int .u32 ((IntKind.u64.wrap ((IntKind.u64.wrap ((IntKind.u64.wrap (rd aU (l1.length:Int)))- dO))- bU))%4294967296)))) ?hg ?ho ?hn ?hr ?_;(case ho=>rfl);(case hg=>rfl);(case hn=>rfl);(case hr=>first|(go_simp;done)|(go_simp;rfl));intro PS hw;have hg:wr.grownBy PS (some jb):=(by rw[hw];exact vX.2);have je:Kd.R (Kd.int .u32) 131 PS w0.heap.size (fun k_=>(iG k_∨w.heap.size≤k_)) (.slice (some ⟨jb,0,none⟩) aU.length uy) y167:=(by rw[hw,Uu.out];exact vX.1);clear vX;have dI:=zM (je);have dG:=zM ((by rw[hw];exact dm (HB.out) Ht.out:Below w0.heap.size w0 PS));have fQ:=zM (Kept.gq (S:=(fun k_=>iG k_)) hg (by repeat(first|(with_reducible first|exact HK.out|apply Kept.alloc|apply Kept.drewN|apply Kept.drew)|exact HK.out)) (fun k_ e_=>(bF.out.1 k_ e_)));clear bF;clear HB;clear HK;have bF:=dI;have HB:=dG;have HK:=fQ;clear dI dG fQ;clear hg hw je))
            repeat(go_quiet (first|((with_reducible refine dN (t:=131) (p:=85) rfl ?_);(try (rw[fU wr];generalize jc:World.drewN wr _=wr;have dI:=zM (Kd.tV jc bF.out);have dG:=zM (lC jc HK.out);have fQ:=zM (iC jc HB.out);clear jc bF HK HB;have bF:=dI;have HK:=dG;have HB:=fQ;clear dI dG fQ;(try (have vX:=Kd.fJ bF.out ((l1.length:Int):Int) ((IntKind.u64.wrap ((IntKind.u64.wrap ((IntKind.u64.wrap (rd aU (l1.length:Int)))- dO))- bU))%4294967296)))));refine dE (t:=131) (p:=85) (v:=?vo_w23) (w1:=(wr.setCell ⟨jb,((l1.length:Int):Int).toNat,none⟩ (.int .u32 ((IntKind.u64.wrap ((IntKind.u64.wrap ((IntKind.u64.wrap (rd aU (l1.length:Int)))- dO))- bU))%4294967296)))) ?hg ?ho ?hn ?hr ?_;(case ho=>rfl);(case hg=>rfl);(case hn=>rfl);(case hr=>first|(go_simp;done)|(go_simp;rfl));intro PS hw;have hg:wr.grownBy PS (some jb):=(by rw[hw];exact vX.2);have je:Kd.R (Kd.int .u32) 131 PS w0.heap.size (fun k_=>(iG k_∨w.heap.size≤k_)) (.slice (some ⟨jb,0,none⟩) aU.length uy) y167:=(by rw[hw,Uu.out];exact vX.1);clear vX;have dI:=zM (je);have dG:=zM ((by rw[hw];exact dm (HB.out) Ht.out:Below w0.heap.size w0 PS));have fQ:=zM (Kept.gq (S:=(fun k_=>iG k_)) hg (by repeat(first|(with_reducible first|exact HK.out|apply Kept.alloc|apply Kept.drewN|apply Kept.drew)|exact HK.out)) (fun k_ e_=>(bF.out.1 k_ e_)));clear bF;clear HB;clear HK;have bF:=dI;have HB:=dG;have HK:=fQ;clear dI dG fQ;clear hg hw je));try go_wp2_with (first|((with_reducible refine dN (t:=131) (p:=85) rfl ?_);(try (rw[fU wr];generalize jc:World.drewN wr _=wr;have dI:=zM (Kd.tV jc bF.out);have dG:=zM (lC jc HK.out);have fQ:=zM (iC jc HB.out);clear jc bF HK HB;have bF:=dI;have HK:=dG;have HB:=fQ;clear dI dG fQ;(try (have vX:=Kd.fJ bF.out ((l1.length:Int):Int) ((IntKind.u64.wrap ((IntKind.u64.wrap ((IntKind.u64.wrap (rd aU (l1.length:Int)))- dO))- bU))%4294967296)))));refine dE (t:=131) (p:=85) (v:=?vo_w23) (w1:=(wr.setCell ⟨jb,((l1.length:Int):Int).toNat,none⟩ (.int .u32 ((IntKind.u64.wrap ((IntKind.u64.wrap ((IntKind.u64.wrap (rd aU (l1.length:Int)))- dO))- bU))%4294967296)))) ?hg ?ho ?hn ?hr ?_;(case ho=>rfl);(case hg=>rfl);(case hn=>rfl);(case hr=>first|(go_simp;done)|(go_simp;rfl));intro PS hw;have hg:wr.grownBy PS (some jb):=(by rw[hw];exact vX.2);have je:Kd.R (Kd.int .u32) 131 PS w0.heap.size (fun k_=>(iG k_∨w.heap.size≤k_)) (.slice (some ⟨jb,0,none⟩) aU.length uy) y167:=(by rw[hw,Uu.out];exact vX.1);clear vX;have dI:=zM (je);have dG:=zM ((by rw[hw];exact dm (HB.out) Ht.out:Below w0.heap.size w0 PS));have fQ:=zM (Kept.gq (S:=(fun k_=>iG k_)) hg (by repeat(first|(with_reducible first|exact HK.out|apply Kept.alloc|apply Kept.drewN|apply Kept.drew)|exact HK.out)) (fun k_ e_=>(bF.out.1 k_ e_)));clear bF;clear HB;clear HK;have bF:=dI;have HB:=dG;have HK:=fQ;clear dI dG fQ;clear hg hw je)))
            go_loopg [6,13] k1 (fun kq v6 v13 w'=>∃(EO:List Int) (zt:Int) (zq:Bool),v6= .int .u64 zt∧v13= .bool zq∧Aside0 (aW.l1 kq EO l1 (l1.length:Int) zt zq=some (r1,r2))∧Aside0 (kq≤k1)∧Aside0 (Kd.R (Kd.int .u32) 131 w' w0.heap.size (fun k_=>(iG k_∨w.heap.size≤k_)) (.slice (some ⟨jb,0,none⟩) aU.length uy) EO)∧Aside0 (Kept w w' (fun k_=>iG k_))∧Aside0 (Below w0.heap.size w0 w'))
            case atStart=>exact⟨(y167),(iq),((((IntKind.u64.wrap ((IntKind.u64.wrap ((IntKind.u64.wrap (rd aU (l1.length:Int)))- dO))- bU))/9223372036854775808)==1)),(by first|rfl|(simp;done)|(simp only[←kY]<;>(first|rfl|simp))|(simp[*];done)),zR,H',⟨Nat.le_refl _⟩,⟨by(try simp only[jr]);(with_reducible repeat(first|apply Kd.dC|apply Kd.dD|apply Kd.dR));exact bF.out⟩,⟨zK⟩,⟨zB⟩⟩
            case round=>
             clear H';try clear c1
             try clear p1
             try clear q1
             try clear hx1
             try clear c2
             try clear p2
             try clear q2
             try clear hx2
             try clear hf2
             try clear c3
             try clear iI
             try clear kW
             try clear c4
             try clear ig
             try clear oQ
             try clear c6
             try clear iP
             try clear p6
             try clear c7
             try clear lZ
             try clear c8
             try clear nP
             try clear c9
             try clear qL
             try clear UZ
             try clear c12
             try clear rf
             try clear c13
             try clear oK
             try clear c14
             try clear rq
             try clear c15
             try clear Bc
             try clear p16
             try clear q16
             try clear hx16
             try clear hf16
             try clear c19
             try clear UU
             try clear UW
             try clear c20
             try clear Qa
             try clear ab3
             try clear p21
             try clear q21
             try clear hx21
             try clear hf21
             try clear vI
             try clear yM
             try clear IG
             try clear Qu
             try clear II
             try clear yN
             try clear oH
             try clear Ov
             try clear p1
             try clear p16
             try clear SH
             try clear SI
             try clear SK
             try clear XN
             try clear XO
             try clear SL
             try clear p2
             try clear p21
             try clear p6
             try clear q1
             try clear q16
             try clear O5
             try clear SX
             try clear SY
             try clear XY
             try clear XZ
             try clear S9
             try clear q21
             obtain⟨EO,zt,zq,rfl,rfl,HA,BK,bF,HK,HB⟩:=hrel;have tJ:=(Kd.dA bF.out).1;rw[tJ]at bF
             (try simp only[tJ])
             cases gk with
             |zero=>exact absurd HA.out (by simp[aW.l1])
             |succ k2=>
              have H:=HA.out;clear HA;simp only[aW.l1]at H
              by_cases c24:zq=true
              ·subst c24;have H1:(aW.l2 k2 EO l1 (l1.length:Int) zt 0 l1 (l1.length:Int) 0)=some (r1,r2):=by rw[if_pos rfl]at H;exact H
               clear H;have H:=H1;clear H1;have H':=zM H;clear H;go_wp2
               repeat(go_quiet (fail);try go_wp2)
               go_loopg [7,94] k2 (fun kq v7 v94 w'=>∃(jy:List Int) (gB:Int) (fB:Int),v7= .int .u64 gB∧v94= .int .i64 fB∧Aside0 (aW.l2 kq jy l1 (l1.length:Int) zt gB l1 (l1.length:Int) fB=some (r1,r2))∧Aside0 (kq≤k2)∧Aside0 (Kd.R (Kd.int .u32) 131 w' w0.heap.size (fun k_=>(iG k_∨w.heap.size≤k_)) (.slice (some ⟨jb,0,none⟩) EO.length uy) jy)∧Aside0 (Kept w w' (fun k_=>iG k_))∧Aside0 (Below w0.heap.size w0 w'))
               case atStart=>exact⟨(EO),(0),(0),zR,zR,H',⟨Nat.le_refl _⟩,⟨by(try simp only[jr]);(try simp only[tJ]);(with_reducible repeat(first|apply Kd.dC|apply Kd.dD|apply Kd.dR));exact bF.out⟩,⟨zK⟩,⟨zB⟩⟩
               case round=>
                clear H';try clear c1
                try clear p1
                try clear q1
                try clear hx1
                try clear c2
                try clear p2
                try clear q2
                try clear hx2
                try clear hf2
                try clear c3
                try clear iI
                try clear kW
                try clear c4
                try clear ig
                try clear oQ
                try clear c6
                try clear iP
                try clear p6
                try clear c7
                try clear lZ
                try clear c8
                try clear nP
                try clear c9
                try clear qL
                try clear UZ
                try clear c12
                try clear rf
                try clear c13
                try clear oK
                try clear c14
                try clear rq
                try clear c15
                try clear Bc
                try clear p16
                try clear q16
                try clear hx16
                try clear hf16
                try clear c19
                try clear UU
                try clear UW
                try clear c20
                try clear Qa
                try clear ab3
                try clear p21
                try clear q21
                try clear hx21
                try clear hf21
                try clear c24
                try clear vI
                try clear yM
                try clear IG
                try clear Qu
                try clear II
                try clear yN
                try clear oH
                try clear Ov
                try clear p1
                try clear p16
                try clear SH
                try clear SI
                try clear SK
                try clear XN
                try clear XO
                try clear SL
                try clear p2
                try clear p21
                try clear p6
                try clear q1
                try clear q16
                try clear O5
                try clear SX
                try clear SY
                try clear XY
                try clear XZ
                try clear S9
                try clear q2
                try clear q21
                obtain⟨jy,gB,fB,rfl,rfl,HA,yw,bF,HK,HB⟩:=hrel;have uD:=(Kd.dA bF.out).1;rw[uD]at bF
                (try simp only[uD])
                cases gk with
                |zero=>exact absurd HA.out (by simp[aW.l2])
                |succ k3=>
                 have H:=HA.out;clear HA;simp only[aW.l2]at H
                 by_cases c25:fB<(l1.length:Int)
                 ·rw[if_pos c25]at H;have Qb:=zT c25;clear c25
                  by_cases c26:0≤fB
                  ·rw[if_pos c26]at H;have aoE:=zT c26;clear c26
                   by_cases c27:fB<(l1.length:Int)
                   ·rw[if_pos c27]at H;have aoF:=zT c27;clear c27
                    by_cases c28:fB<(jy.length:Int)
                    ·rw[if_pos c28]at H;have aoG:=zT c28;clear c28;obtain⟨Yy,Wy⟩:∃y_:List Int,y_=(jy.set (fB:Int).toNat ((IntKind.u64.wrap (gB+(IntKind.u64.wrap ((IntKind.u64.wrap (rd jy fB))+(IntKind.u64.wrap (rd l1 fB))))))%4294967296)):=⟨_,rfl⟩;replace H:(aW.l2 k3 Yy l1 (l1.length:Int) zt ((IntKind.u64.wrap (gB+(IntKind.u64.wrap ((IntKind.u64.wrap (rd jy fB))+(IntKind.u64.wrap (rd l1 fB))))))/4294967296) l1 (l1.length:Int) (wrap64 (fB+1)))=some (r1,r2):=zY Wy H;have Uw:=zM Wy;clear Wy;have H':=zM H;clear H;have adD:0≤(fB:Int):=zD;have adR:fB<(l1.length:Int):=zD;obtain⟨ag7,e168,ajj⟩:=Kd.dM (Kd.o7 HR1.out HK.out) fB adD adR;obtain rfl:UI=ag7:=(by injection e168);replace adD:=eq_true adD;replace adR:=eq_true adR;have adE:0≤(fB:Int):=zD;have adS:fB<(jy.length:Int):=zD;obtain⟨ag8,e169,IJ⟩:=Kd.dM (Kd.dA bF.out).2.2 fB adE adS;obtain rfl:(⟨jb,0,none⟩:Addr)=ag8:=(by injection e169)
                     (first|simp only[add_plain]at IJ|simp only[NP]at IJ|simp only[Addr.add,Nat.zero_add]at IJ|skip)
                     replace adE:=eq_true adE;replace adS:=eq_true adS;have p29:0≤(fB:Int):=zD;have q29:(fB:Int)<((jy.length:Int):Int):=zD;obtain⟨adh,acT⟩:=Kd.fE 0 bF.out (fB:Int) p29 q29
                     (try simp only[Int.toNat_natCast]at adh acT)
                     replace p29:=eq_true p29;replace q29:=eq_true q29;have BM:=Kd.fJ bF.out (fB:Int) ((IntKind.u64.wrap (gB+(IntKind.u64.wrap ((IntKind.u64.wrap (rd jy fB))+(IntKind.u64.wrap (rd l1 fB))))))%4294967296);go_wp2_with (first|((with_reducible refine dN (t:=131) (p:=113) rfl ?_);(try (rw[fU wr];generalize jc:World.drewN wr _=wr;have dI:=zM (Kd.tV jc bF.out);have dG:=zM (lC jc HK.out);have fQ:=zM (iC jc HB.out);clear jc bF HK HB;have bF:=dI;have HK:=dG;have HB:=fQ;clear dI dG fQ;(try (have BM:=Kd.fJ bF.out (fB:Int) ((IntKind.u64.wrap (gB+(IntKind.u64.wrap ((IntKind.u64.wrap (rd jy fB))+(IntKind.u64.wrap (rd l1 fB))))))%4294967296)))));refine dE (t:=131) (p:=113) (v:=?vo_w31) (w1:=(wr.setCell ⟨jb,(fB:Int).toNat,none⟩ (.int .u32 ((IntKind.u64.wrap (gB+(IntKind.u64.wrap ((IntKind.u64.wrap (rd jy fB))+(IntKind.u64.wrap (rd l1 fB))))))%4294967296)))) ?hg ?ho ?hn ?hr ?_;(case ho=>rfl);(case hg=>rfl);(case hn=>rfl);(case hr=>first|(go_simp;done)|(go_simp;rfl));intro Yt hw;have hg:wr.grownBy Yt (some jb):=(by rw[hw];exact BM.2);have je:Kd.R (Kd.int .u32) 131 Yt w0.heap.size (fun k_=>(iG k_∨w.heap.size≤k_)) (.slice (some ⟨jb,0,none⟩) jy.length uy) Yy:=(by rw[hw,Uw.out];exact BM.1);clear BM;have dI:=zM (je);have dG:=zM ((by rw[hw];exact dm (HB.out) Ht.out:Below w0.heap.size w0 Yt));have fQ:=zM (Kept.gq (S:=(fun k_=>iG k_)) hg (by repeat(first|(with_reducible first|exact HK.out|apply Kept.alloc|apply Kept.drewN|apply Kept.drew)|exact HK.out)) (fun k_ e_=>(bF.out.1 k_ e_)));clear bF;clear HB;clear HK;have bF:=dI;have HB:=dG;have HK:=fQ;clear dI dG fQ;clear hg hw je))
                     repeat(go_quiet (first|((with_reducible refine dN (t:=131) (p:=113) rfl ?_);(try (rw[fU wr];generalize jc:World.drewN wr _=wr;have dI:=zM (Kd.tV jc bF.out);have dG:=zM (lC jc HK.out);have fQ:=zM (iC jc HB.out);clear jc bF HK HB;have bF:=dI;have HK:=dG;have HB:=fQ;clear dI dG fQ;(try (have BM:=Kd.fJ bF.out (fB:Int) ((IntKind.u64.wrap (gB+(IntKind.u64.wrap ((IntKind.u64.wrap (rd jy fB))+(IntKind.u64.wrap (rd l1 fB))))))%4294967296)))));refine dE (t:=131) (p:=113) (v:=?vo_w31) (w1:=(wr.setCell ⟨jb,(fB:Int).toNat,none⟩ (.int .u32 ((IntKind.u64.wrap (gB+(IntKind.u64.wrap ((IntKind.u64.wrap (rd jy fB))+(IntKind.u64.wrap (rd l1 fB))))))%4294967296)))) ?hg ?ho ?hn ?hr ?_;(case ho=>rfl);(case hg=>rfl);(case hn=>rfl);(case hr=>first|(go_simp;done)|(go_simp;rfl));intro Yt hw;have hg:wr.grownBy Yt (some jb):=(by rw[hw];exact BM.2);have je:Kd.R (Kd.int .u32) 131 Yt w0.heap.size (fun k_=>(iG k_∨w.heap.size≤k_)) (.slice (some ⟨jb,0,none⟩) jy.length uy) Yy:=(by rw[hw,Uw.out];exact BM.1);clear BM;have dI:=zM (je);have dG:=zM ((by rw[hw];exact dm (HB.out) Ht.out:Below w0.heap.size w0 Yt));have fQ:=zM (Kept.gq (S:=(fun k_=>iG k_)) hg (by repeat(first|(with_reducible first|exact HK.out|apply Kept.alloc|apply Kept.drewN|apply Kept.drew)|exact HK.out)) (fun k_ e_=>(bF.out.1 k_ e_)));clear bF;clear HB;clear HK;have bF:=dI;have HB:=dG;have HK:=fQ;clear dI dG fQ;clear hg hw je));try go_wp2_with (first|((with_reducible refine dN (t:=131) (p:=113) rfl ?_);(try (rw[fU wr];generalize jc:World.drewN wr _=wr;have dI:=zM (Kd.tV jc bF.out);have dG:=zM (lC jc HK.out);have fQ:=zM (iC jc HB.out);clear jc bF HK HB;have bF:=dI;have HK:=dG;have HB:=fQ;clear dI dG fQ;(try (have BM:=Kd.fJ bF.out (fB:Int) ((IntKind.u64.wrap (gB+(IntKind.u64.wrap ((IntKind.u64.wrap (rd jy fB))+(IntKind.u64.wrap (rd l1 fB))))))%4294967296)))));refine dE (t:=131) (p:=113) (v:=?vo_w31) (w1:=(wr.setCell ⟨jb,(fB:Int).toNat,none⟩ (.int .u32 ((IntKind.u64.wrap (gB+(IntKind.u64.wrap ((IntKind.u64.wrap (rd jy fB))+(IntKind.u64.wrap (rd l1 fB))))))%4294967296)))) ?hg ?ho ?hn ?hr ?_;(case ho=>rfl);(case hg=>rfl);(case hn=>rfl);(case hr=>first|(go_simp;done)|(go_simp;rfl));intro Yt hw;have hg:wr.grownBy Yt (some jb):=(by rw[hw];exact BM.2);have je:Kd.R (Kd.int .u32) 131 Yt w0.heap.size (fun k_=>(iG k_∨w.heap.size≤k_)) (.slice (some ⟨jb,0,none⟩) jy.length uy) Yy:=(by rw[hw,Uw.out];exact BM.1);clear BM;have dI:=zM (je);have dG:=zM ((by rw[hw];exact dm (HB.out) Ht.out:Below w0.heap.size w0 Yt));have fQ:=zM (Kept.gq (S:=(fun k_=>iG k_)) hg (by repeat(first|(with_reducible first|exact HK.out|apply Kept.alloc|apply Kept.drewN|apply Kept.drew)|exact HK.out)) (fun k_ e_=>(bF.out.1 k_ e_)));clear bF;clear HB;clear HK;have bF:=dI;have HB:=dG;have HK:=fQ;clear dI dG fQ;clear hg hw je)))
                     (try simp only[←uD])
                     (try simp only[add_plain])
                     go_roundg k3
                     case measure=>have:=fM.out;have:=BK.out;have:=yw.out;omega
                     case rel=>exact⟨(Yy),((IntKind.u64.wrap (gB+(IntKind.u64.wrap ((IntKind.u64.wrap (rd jy fB))+(IntKind.u64.wrap (rd l1 fB))))))/4294967296),(wrap64 (fB+1)),zR,zR,H',⟨by have:=fM.out;have:=BK.out;have:=yw.out;omega⟩,⟨by(try simp only[jr]);(try simp only[tJ]);(try simp only[uD]);(with_reducible repeat(first|apply Kd.dC|apply Kd.dD|apply Kd.dR));exact bF.out⟩,⟨zK⟩,⟨zB⟩⟩
                    ·rw[if_neg c28]at H;exact absurd H (by simp)
                   ·rw[if_neg c27]at H;exact absurd H (by simp)
                  ·rw[if_neg c26]at H;exact absurd H (by simp)
                 ·rw[if_neg c25]at H;have Qb:=zF c25
                  (try rw[jr]at Qb)
                  (try rw[tJ]at Qb)
                  (try rw[uD]at Qb)
                  clear c25
                  by_cases c32:0≤(l1.length:Int)
                  ·rw[if_pos c32]at H;have aoH:=zT c32;have aoI:decide (0≤l1.length)=true:=decide_eq_true (by omega);clear c32
                   by_cases c33:(l1.length:Int)<(jy.length:Int)
                   ·rw[if_pos c33]at H;have aoJ:=zT c33;have aoK:decide (l1.length<jy.length)=true:=decide_eq_true (Int.ofNat_lt.mp c33);clear c33;obtain⟨Yz,WA⟩:∃y_:List Int,y_=(jy.set ((l1.length:Int):Int).toNat ((IntKind.u64.wrap (gB+(IntKind.u64.wrap (rd jy (l1.length:Int)))))%4294967296)):=⟨_,rfl⟩;replace H:(aW.l1 k3 Yz l1 (l1.length:Int) (IntKind.u64.wrap (zt- 1)) (((IntKind.u64.wrap (gB+(IntKind.u64.wrap (rd jy (l1.length:Int)))))/4294967296)==0))=some (r1,r2):=zY WA H;have Ux:=zM WA;clear WA;have H':=zM H;clear H;have aa8:0≤((l1.length:Int):Int):=zD;have aai:(l1.length:Int)<(jy.length:Int):=zD;obtain⟨ag9,akW,yO⟩:=Kd.dM (Kd.dA bF.out).2.2 (l1.length:Int) aa8 aai;obtain rfl:(⟨jb,0,none⟩:Addr)=ag9:=(by injection akW)
                    (first|simp only[add_plain]at yO|simp only[NP]at yO|simp only[Addr.add,Nat.zero_add]at yO|skip)
                    (try simp only[Go.IntWalk.toNatUp]at yO)
                    (try simp only[jr,tJ,uD]at aa8)
                    (try simp only[jr,tJ,uD]at aai)
                    (try simp only[jr,tJ,uD]at yO)
                    replace aa8:=eq_true aa8;replace aai:=eq_true aai;have p34:0≤((l1.length:Int):Int):=zD;have q34:((l1.length:Int):Int)<((jy.length:Int):Int):=zD;obtain⟨adi,acU⟩:=Kd.fE 0 bF.out ((l1.length:Int):Int) p34 q34
                    (try simp only[Int.toNat_natCast]at adi acU)
                    replace p34:=eq_true p34;replace q34:=eq_true q34;have BN:=Kd.fJ bF.out ((l1.length:Int):Int) ((IntKind.u64.wrap (gB+(IntKind.u64.wrap (rd jy (l1.length:Int)))))%4294967296);go_wp2_with (first|((with_reducible refine dN (t:=131) (p:=128) rfl ?_);(try (rw[fU wr];generalize jc:World.drewN wr _=wr;have dI:=zM (Kd.tV jc bF.out);have dG:=zM (lC jc HK.out);have fQ:=zM (iC jc HB.out);clear jc bF HK HB;have bF:=dI;have HK:=dG;have HB:=fQ;clear dI dG fQ;(try (have BN:=Kd.fJ bF.out ((l1.length:Int):Int) ((IntKind.u64.wrap (gB+(IntKind.u64.wrap (rd jy (l1.length:Int)))))%4294967296)))));refine dE (t:=131) (p:=128) (v:=?vo_w36) (w1:=(wr.setCell ⟨jb,((l1.length:Int):Int).toNat,none⟩ (.int .u32 ((IntKind.u64.wrap (gB+(IntKind.u64.wrap (rd jy (l1.length:Int)))))%4294967296)))) ?hg ?ho ?hn ?hr ?_;(case ho=>rfl);(case hg=>rfl);(case hn=>rfl);(case hr=>first|(go_simp;done)|(go_simp;rfl));intro Yu hw;have hg:wr.grownBy Yu (some jb):=(by rw[hw];exact BN.2);have je:Kd.R (Kd.int .u32) 131 Yu w0.heap.size (fun k_=>(iG k_∨w.heap.size≤k_)) (.slice (some ⟨jb,0,none⟩) jy.length uy) Yz:=(by rw[hw,Ux.out];exact BN.1);clear BN;have dI:=zM (je);have dG:=zM ((by rw[hw];exact dm (HB.out) Ht.out:Below w0.heap.size w0 Yu));have fQ:=zM (Kept.gq (S:=(fun k_=>iG k_)) hg (by repeat(first|(with_reducible first|exact HK.out|apply Kept.alloc|apply Kept.drewN|apply Kept.drew)|exact HK.out)) (fun k_ e_=>(bF.out.1 k_ e_)));clear bF;clear HB;clear HK;have bF:=dI;have HB:=dG;have HK:=fQ;clear dI dG fQ;clear hg hw je))
                    repeat(go_quiet (first|((with_reducible refine dN (t:=131) (p:=128) rfl ?_);(try (rw[fU wr];generalize jc:World.drewN wr _=wr;have dI:=zM (Kd.tV jc bF.out);have dG:=zM (lC jc HK.out);have fQ:=zM (iC jc HB.out);clear jc bF HK HB;have bF:=dI;have HK:=dG;have HB:=fQ;clear dI dG fQ;(try (have BN:=Kd.fJ bF.out ((l1.length:Int):Int) ((IntKind.u64.wrap (gB+(IntKind.u64.wrap (rd jy (l1.length:Int)))))%4294967296)))));refine dE (t:=131) (p:=128) (v:=?vo_w36) (w1:=(wr.setCell ⟨jb,((l1.length:Int):Int).toNat,none⟩ (.int .u32 ((IntKind.u64.wrap (gB+(IntKind.u64.wrap (rd jy (l1.length:Int)))))%4294967296)))) ?hg ?ho ?hn ?hr ?_;(case ho=>rfl);(case hg=>rfl);(case hn=>rfl);(case hr=>first|(go_simp;done)|(go_simp;rfl));intro Yu hw;have hg:wr.grownBy Yu (some jb):=(by rw[hw];exact BN.2);have je:Kd.R (Kd.int .u32) 131 Yu w0.heap.size (fun k_=>(iG k_∨w.heap.size≤k_)) (.slice (some ⟨jb,0,none⟩) jy.length uy) Yz:=(by rw[hw,Ux.out];exact BN.1);clear BN;have dI:=zM (je);have dG:=zM ((by rw[hw];exact dm (HB.out) Ht.out:Below w0.heap.size w0 Yu));have fQ:=zM (Kept.gq (S:=(fun k_=>iG k_)) hg (by repeat(first|(with_reducible first|exact HK.out|apply Kept.alloc|apply Kept.drewN|apply Kept.drew)|exact HK.out)) (fun k_ e_=>(bF.out.1 k_ e_)));clear bF;clear HB;clear HK;have bF:=dI;have HB:=dG;have HK:=fQ;clear dI dG fQ;clear hg hw je));try go_wp2_with (first|((with_reducible refine dN (t:=131) (p:=128) rfl ?_);(try (rw[fU wr];generalize jc:World.drewN wr _=wr;have dI:=zM (Kd.tV jc bF.out);have dG:=zM (lC jc HK.out);have fQ:=zM (iC jc HB.out);clear jc bF HK HB;have bF:=dI;have HK:=dG;have HB:=fQ;clear dI dG fQ;(try (have BN:=Kd.fJ bF.out ((l1.length:Int):Int) ((IntKind.u64.wrap (gB+(IntKind.u64.wrap (rd jy (l1.length:Int)))))%4294967296)))));refine dE (t:=131) (p:=128) (v:=?vo_w36) (w1:=(wr.setCell ⟨jb,((l1.length:Int):Int).toNat,none⟩ (.int .u32 ((IntKind.u64.wrap (gB+(IntKind.u64.wrap (rd jy (l1.length:Int)))))%4294967296)))) ?hg ?ho ?hn ?hr ?_;(case ho=>rfl);(case hg=>rfl);(case hn=>rfl);(case hr=>first|(go_simp;done)|(go_simp;rfl));intro Yu hw;have hg:wr.grownBy Yu (some jb):=(by rw[hw];exact BN.2);have je:Kd.R (Kd.int .u32) 131 Yu w0.heap.size (fun k_=>(iG k_∨w.heap.size≤k_)) (.slice (some ⟨jb,0,none⟩) jy.length uy) Yz:=(by rw[hw,Ux.out];exact BN.1);clear BN;have dI:=zM (je);have dG:=zM ((by rw[hw];exact dm (HB.out) Ht.out:Below w0.heap.size w0 Yu));have fQ:=zM (Kept.gq (S:=(fun k_=>iG k_)) hg (by repeat(first|(with_reducible first|exact HK.out|apply Kept.alloc|apply Kept.drewN|apply Kept.drew)|exact HK.out)) (fun k_ e_=>(bF.out.1 k_ e_)));clear bF;clear HB;clear HK;have bF:=dI;have HB:=dG;have HK:=fQ;clear dI dG fQ;clear hg hw je)))
                    (try simp only[←tJ,←uD])
                    (try simp only[add_plain])
                    go_roundg k3
                    case measure=>have:=fM.out;have:=BK.out;have:=yw.out;omega
                    case rel=>exact⟨(Yz),(IntKind.u64.wrap (zt- 1)),((((IntKind.u64.wrap (gB+(IntKind.u64.wrap (rd jy (l1.length:Int)))))/4294967296)==0)),zR,zR,H',⟨by have:=fM.out;have:=BK.out;have:=yw.out;omega⟩,⟨by(try simp only[jr]);(try simp only[tJ]);(try simp only[uD]);(with_reducible repeat(first|apply Kd.dC|apply Kd.dD|apply Kd.dR));exact bF.out⟩,⟨zK⟩,⟨zB⟩⟩
                   ·rw[if_neg c33]at H;exact absurd H (by simp)
                  ·rw[if_neg c32]at H;exact absurd H (by simp)
              ·replace c24:=Bool.eq_false_iff.mpr c24;subst c24;have H1:(some ((zt)%4294967296,EO))=some (r1,r2):=by rw[if_neg (show¬(false=true)by decide)]at H;exact H
               clear H;have H:=H1;clear H1;simp only[Option.some.injEq,Prod.mk.injEq]at H;obtain⟨rfl,rfl⟩:=H;go_wp2
               repeat(go_quiet (fail);try go_wp2)
               go_ret;exact⟨by first|rfl|(simp[bg,bn]<;>rfl)|(simp only[←Oq,←kY];first|rfl|(simp[bg,bn]<;>rfl))|(simp[*,bg,bn]<;>rfl),(by first|exact(by(with_reducible repeat(first|apply Kd.dC|apply Kd.dD|apply Kd.dR));exact bF.out)|(simp only[jr,tJ];exact(by(with_reducible repeat(first|apply Kd.dC|apply Kd.dD|apply Kd.dR));exact bF.out))),zB,zK⟩
           ·rw[if_neg c20]at H;exact absurd H (by simp)
          ·rw[if_neg c19]at H;exact absurd H (by simp)
     ·rw[if_neg c8]at H;exact absurd H (by simp)
    ·rw[if_neg c7]at H;exact absurd H (by simp)
   ·rw[if_neg c6]at H;exact absurd H (by simp)
  ·rw[if_neg c4]at H;exact absurd H (by simp)
 ·rw[if_neg c3]at H;exact absurd H (by simp)
def stringslite_HasPrefix.f (a0:ByteArray)(a1:ByteArray):Option (Bool):=if(a0.size:Int)≥(a1.size:Int)then(if 0≤(a1.size:Int)then(if(a1.size:Int)≤(a0.size:Int)then(some ((a0.extract 0 ((a1.size:Int):Int).toNat).toList==a1.toList))else(none))else(none))else(some false)
theorem stringslite_HasPrefix.calls (a0:ByteArray)(a1:ByteArray)(r:Bool)(w:World)(h:stringslite_HasPrefix.f a0 a1=some r):
  Calls Tryz.prog 233 #[.string a0,.string a1] w fun e w'=>e= .returned (.bool r)∧aJ w w':=by
 have H:(if(a0.size:Int)≥(a1.size:Int)then(if 0≤(a1.size:Int)then(if(a1.size:Int)≤(a0.size:Int)then(some ((a0.extract 0 ((a1.size:Int):Int).toNat).toList==a1.toList))else(none))else(none))else(some false))=some r:=h;clear h
 by_cases c3:(a0.size:Int)≥(a1.size:Int)
 ·rw[if_pos c3]at H;have iI:=zT c3;have kW:decide (a1.size≤a0.size)=true:=decide_eq_true (Int.ofNat_le.mp c3);clear c3
  by_cases c4:0≤(a1.size:Int)
  ·rw[if_pos c4]at H;have ig:=eq_true c4;have oQ:=zT c4;clear c4
   by_cases c5:(a1.size:Int)≤(a0.size:Int)
   ·rw[if_pos c5]at H;have jJ:=eq_true c5;have qh:=zT c5;clear c5;obtain rfl:=Option.some.inj H;go_enter Tryz.func233,Tryz.ntmps233;go_wp2;go_ret;exact⟨zR,by repeat(first|exact aJ.refl _|apply aJ.step)⟩
   ·rw[if_neg c5]at H;exact absurd H (by simp)
  ·rw[if_neg c4]at H;exact absurd H (by simp)
 ·rw[if_neg c3]at H;have iI:=zF c3;have kW:decide (a1.size≤a0.size)=false:=decide_eq_false (fun h=>c3 (Int.ofNat_le.mpr h));clear c3;obtain rfl:=Option.some.inj H;go_enter Tryz.func233,Tryz.ntmps233;go_wp2;go_ret;exact⟨zR,by repeat(first|exact aJ.refl _|apply aJ.step)⟩
def stringslite_CutPrefix.f (a0:ByteArray)(a1:ByteArray):Option (ByteArray×Bool):=(stringslite_HasPrefix.f a0 a1).bind fun t132=>(if t132=true then(if 0≤(a1.size:Int)then(if(a1.size:Int)≤(a0.size:Int)then(some (a0.extract ((a1.size:Int):Int).toNat a0.size,true))else(none))else(none))else(some (a0,false)))
theorem stringslite_CutPrefix.calls (a0:ByteArray)(a1:ByteArray)(r1:ByteArray)(r2:Bool)(w:World)(h:stringslite_CutPrefix.f a0 a1=some (r1,r2)):
  Calls Tryz.prog 203 #[.string a0,.string a1] w fun e w'=>e= .returned (.tuple #[.string r1,.bool r2])∧aJ w w':=by
 have H:((stringslite_HasPrefix.f a0 a1).bind fun t132=>(if t132=true then(if 0≤(a1.size:Int)then(if(a1.size:Int)≤(a0.size:Int)then(some (a0.extract ((a1.size:Int):Int).toNat a0.size,true))else(none))else(none))else(some (a0,false))))=some (r1,r2):=h;clear h;replace H:=Option.bind_eq_some_iff.mp H;obtain⟨t132,TS,H⟩:=H;replace H:(if t132=true then(if 0≤(a1.size:Int)then(if(a1.size:Int)≤(a0.size:Int)then(some (a0.extract ((a1.size:Int):Int).toNat a0.size,true))else(none))else(none))else(some (a0,false)))=some (r1,r2):=H;have A3:=zM TS;clear TS
 by_cases c4:t132=true
 ·subst c4;have H1:(if 0≤(a1.size:Int)then(if(a1.size:Int)≤(a0.size:Int)then(some (a0.extract ((a1.size:Int):Int).toNat a0.size,true))else(none))else(none))=some (r1,r2):=by rw[if_pos rfl]at H;exact H
  clear H;have H:=H1;clear H1
  by_cases c5:0≤(a1.size:Int)
  ·rw[if_pos c5]at H;have jJ:=eq_true c5;have qh:=zT c5;clear c5
   by_cases c6:(a1.size:Int)≤(a0.size:Int)
   ·rw[if_pos c6]at H;have iP:=eq_true c6;have og:=zT c6;clear c6;simp only[Option.some.injEq,Prod.mk.injEq]at H;obtain⟨rfl,rfl⟩:=H;go_enter Tryz.func203,Tryz.ntmps203;go_wp2_with (first|((with_reducible refine iJ (f:=233) rfl ?_);refine pO (some 8) rfl rfl Tryz.func233 (by kernel_rfl) rfl #[.string a0,.string a1] rfl (by(try simp only[List.map_toArray,List.map_cons,List.map_nil]);first|done|rfl|(simp only[List.length_drop,List.length_take];rfl)) ?_;(with_reducible refine(stringslite_HasPrefix.calls a0 a1 true _ A3.out).mono ?_);rintro e w' ⟨rfl,⟨nd,rfl⟩⟩;refine⟨_,rfl,?_⟩));go_ret2;exact⟨zR,by repeat(first|exact aJ.refl _|apply aJ.step)⟩
   ·rw[if_neg c6]at H;exact absurd H (by simp)
  ·rw[if_neg c5]at H;exact absurd H (by simp)
 ·replace c4:=Bool.eq_false_iff.mpr c4;subst c4;have H1:(some (a0,false))=some (r1,r2):=by rw[if_neg (show¬(false=true)by decide)]at H;exact H
  clear H;have H:=H1;clear H1;simp only[Option.some.injEq,Prod.mk.injEq]at H;obtain⟨rfl,rfl⟩:=H;go_enter Tryz.func203,Tryz.ntmps203;go_wp2_with (first|((with_reducible refine iJ (f:=233) rfl ?_);refine pO (some 8) rfl rfl Tryz.func233 (by kernel_rfl) rfl #[.string a0,.string a1] rfl (by(try simp only[List.map_toArray,List.map_cons,List.map_nil]);first|done|rfl|(simp only[List.length_drop,List.length_take];rfl)) ?_;(with_reducible refine(stringslite_HasPrefix.calls a0 a1 false _ A3.out).mono ?_);rintro e w' ⟨rfl,⟨nd,rfl⟩⟩;refine⟨_,rfl,?_⟩));go_ret2;exact⟨zR,by repeat(first|exact aJ.refl _|apply aJ.step)⟩
def strings_CutPrefix.f (a0:ByteArray)(a1:ByteArray):Option (ByteArray×Bool):=(stringslite_CutPrefix.f a0 a1).bind fun JO=>(some (JO.1,JO.2))
theorem strings_CutPrefix.calls (a0:ByteArray)(a1:ByteArray)(r1:ByteArray)(r2:Bool)(w:World)(h:strings_CutPrefix.f a0 a1=some (r1,r2)):
  Calls Tryz.prog 155 #[.string a0,.string a1] w fun e w'=>e= .returned (.tuple #[.string r1,.bool r2])∧aJ w w':=by
 have H:((stringslite_CutPrefix.f a0 a1).bind fun JO=>(some (JO.1,JO.2)))=some (r1,r2):=h;clear h;replace H:=Option.bind_eq_some_iff.mp H;obtain⟨⟨t133,t134⟩,TS,H⟩:=H;replace H:(some (t133,t134))=some (r1,r2):=H;have A3:=zM TS;clear TS;simp only[Option.some.injEq,Prod.mk.injEq]at H;obtain⟨rfl,rfl⟩:=H;go_enter Tryz.func155,Tryz.ntmps155;go_wp2_with (first|((with_reducible refine iJ (f:=203) rfl ?_);refine pO (some 8) rfl rfl Tryz.func203 (by kernel_rfl) rfl #[.string a0,.string a1] rfl (by(try simp only[List.map_toArray,List.map_cons,List.map_nil]);first|done|rfl|(simp only[List.length_drop,List.length_take];rfl)) ?_;(with_reducible refine(stringslite_CutPrefix.calls a0 a1 t133 t134 _ A3.out).mono ?_);rintro e w' ⟨rfl,⟨nd,rfl⟩⟩;refine⟨_,rfl,?_⟩));go_ret2;exact⟨zR,by repeat(first|exact aJ.refl _|apply aJ.step)⟩
end Go.Proofs.YthbdjmopolpjmaaGreatDoor.F
