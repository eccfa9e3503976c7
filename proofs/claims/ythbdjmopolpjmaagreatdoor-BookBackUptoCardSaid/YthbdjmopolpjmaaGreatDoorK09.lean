/- Part 9 of the proof. -/
import Derived.Test.YthbdjmopolpjmaaGreatDoorK03
import Derived.Test.YthbdjmopolpjmaaGreatDoorK04
import Derived.Test.YthbdjmopolpjmaaGreatDoorK06
import Derived.Test.YthbdjmopolpjmaaGreatDoorK08
set_option linter.unusedVariables false
set_option linter.unusedSimpArgs false
set_option maxHeartbeats 8000000
set_option maxRecDepth 100000
namespace Go.Proofs.YthbdjmopolpjmaaGreatDoor.C
open Go.RowKit Go.Proofs.YthbdjmopolpjmaaGreatDoorW.PrintWords Go.Proofs.YthbdjmopolpjmaaGreatDoorW.PrintLast Go.Proofs.YthbdjmopolpjmaaGreatDoorW.PrintMore Go.Proofs.YthbdjmopolpjmaaGreatDoor.F Go.Proofs.YthbdjmopolpjmaaGreatDoor.M
theorem LM (k g o:Nat)(neg:Bool)(A0:Option Addr)(c0:Nat)(l0:List Int)(r:List Int)(w:World)(v0 v1:Value)(hx0:w.cell? ⟨g,o,none⟩=some v0)(hx1:w.cell? ⟨g,o+1,none⟩=some v1)(hf0:w.frozen? ⟨g,o,none⟩=false)(hf1:w.frozen? ⟨g,o+1,none⟩=false)
  (hC0:Kd.C (Kd.int .u32) w A0 l0.length l0) (hc0:l0.length≤c0) (h:dh.f k l0=some r):
  Calls Tryz.prog 160 #[.pointer (some ⟨g,o,none⟩),.bool neg,.slice A0 l0.length c0] w fun e w'=>e= .returned (.pointer (some ⟨g,o,none⟩))∧w'=(w.setCell ⟨g,o,none⟩ (.bool (neg&& !r.isEmpty))).setCell ⟨g,o+1,none⟩ (.slice A0 r.length c0):=by
 have zC:=zM hC0;have Hw:=zM hc0;have H':=zM (show dh.l0 k l0=some r from h);clear h hC0 hc0;go_enter Tryz.func160,Tryz.ntmps160;go_wp2;go_loopg [2] k (fun kq v2 w'=>∃(aU:List Int),v2= .slice A0 aU.length c0∧w'=w∧Aside0 (dh.l0 kq aU=some r)∧Aside0 (kq≤k)∧Aside0 (Kd.C (Kd.int .u32) w A0 aU.length aU)∧Aside0 (aU.length≤c0))
 case atStart=>exact⟨l0,rfl,rfl,H',⟨Nat.le_refl _⟩,zC,Hw⟩
 case round=>
  clear H' zC;obtain⟨aU,rfl,rfl,HA,fM,bF,JB⟩:=hrel;cases gk with
  |zero=>exact absurd HA.out (by simp[dh.l0])
  |succ k1=>
   have H:=HA.out;clear HA;simp only[dh.l0]at H
   by_cases c2:(aU.length:Int)>0
   ·rw[if_pos c2]at H;have kE:=zT c2;have xw:decide (0<aU.length)=true:=decide_eq_true (by omega);have hmax:=Kd.TV bF.out;have hw:wrap64 ((aU.length:Int)- 1)=(aU.length:Int)- 1:=fD (by omega) (by omega);rw[hw,if_pos (by omega),if_pos (by omega)]at H;obtain⟨gX,kz⟩:=zI ((aU.length:Int)- 1);rw[kz]at H;have Gv:(IntKind.i64.wrap ((aU.length:Int)- 1))=gX:=(dL _).trans (hw.trans kz);have abk:wrap64 ((aU.length:Int)- 1)=gX:=hw.trans kz;have l9:0≤gX:=by omega
    have oI:gX<(aU.length:Int):=by omega
    have hjle:gX≤(aU.length:Int):=by omega
    have hne:aU.isEmpty=false:=by cases aU with|nil=>simp at c2|cons _ _=>rfl
    have Hne:=zM hne;have Hji:=zM kz;clear c2 hmax hw kz hne;obtain⟨wH,IA,CW⟩:=Kd.dM bF.out gX l9 oI;cases IA
    by_cases c6:(rd aU gX)=0
    ·rw[if_pos c6,if_pos hjle]at H;have iP:((rd aU (gX))==0)=true:=beq_iff_eq.mpr c6;have og:((rd aU (gX)) !=0)=false:=bne_eq_false_iff_eq.mpr c6;clear c6;obtain⟨tY,pR⟩:∃y_:List Int,y_=(aU.take (gX:Int).toNat):=⟨_,rfl⟩;rw[←pR]at H;have uh:=zM pR;clear pR;have H':=zM H;clear H;obtain⟨Xo,oL,_,wO,_⟩:=info_parts kQ;have sD:=xy (P:=Tryz.prog) 171 131 .i64 Tryz.underlying171 oL (some wH) aU.length c0 gX l9 hjle JB.out;have vZ:=zM (Kd.Dl bF.out (m:=gX.toNat) (by omega));have sN:tY.length=(gX:Int).toNat:=(by rw[uh.out,List.length_take];omega);rw[←uh.out]at vZ;rw[←sN]at sD;have FD:=zM (show tY.length≤c0 from by have:=JB.out;omega);have Y6:=zM sN;clear sN oL wO;replace l9:=eq_true l9;replace oI:=eq_true oI;replace hjle:=eq_true hjle;go_wp2;go_roundg k1
     case measure=>have:=fM.out;omega
     case rel=>exact⟨tY,rfl,rfl,H',⟨by have:=fM.out;omega⟩,vZ,FD⟩
    ·rw[if_neg c6]at H;have iP:((rd aU (gX))==0)=false:=beq_eq_false_iff_ne.mpr c6;have og:((rd aU (gX)) !=0)=true:=bne_iff_ne.mpr c6;obtain rfl:=Option.some.inj H;clear hjle;replace l9:=eq_true l9;replace oI:=eq_true oI;cases neg
     ·go_wp2;go_ret;exact⟨rfl,by simp⟩
     ·go_wp2;go_ret;exact⟨rfl,by simp[Hne.out]⟩
   ·rw[if_neg c2]at H;have kE:=zF c2;have xw:decide (0<aU.length)=false:=decide_eq_false (by omega);have hne:aU.isEmpty=true:=by cases aU with|nil=>rfl|cons _ _=>simp at c2;try omega
    have Hne:=zM hne;clear c2 hne;obtain rfl:=Option.some.inj H;cases neg
    ·go_wp2;go_ret;exact⟨rfl,by simp⟩
    ·go_wp2;go_ret;exact⟨rfl,by simp[Hne.out]⟩
theorem yz {w:World}{g:Nat}(p q:Addr)(hp:p.block=g)(hq:q.block=g)(v u:Value):gm (·=g) w ((w.setCell p v).setCell q u):=
 ((gm.refl _ w).setCell p (.inl hp) v).setCell q (.inl hq) u
theorem Dh (g:Nat)(neg:Bool)(A0:Option Addr)(c0:Nat)(xs:List Int)(w:World)(v0 v1:Value)(hb:w.heap[g]?=some (.cells #[v0,v1] 173 (0,0)))(hU:U w A0 xs)(hc0:xs.length≤c0)(hd:gV 4294967296 xs)(hl:xs.length≤1000000):
  ∃r,Wd r∧val 4294967296 r=val 4294967296 xs∧Calls Tryz.prog 160 #[.pointer (some ⟨g,0,none⟩),.bool neg,.slice A0 xs.length c0] w fun e w'=>e= .returned (.pointer (some ⟨g,0,none⟩))∧iy w' g (neg&& !r.isEmpty) r∧gm (·=g) w w':=by
 obtain⟨n,hn,ht,hv,he⟩:=sZ 4294967296 xs (by omega);obtain⟨k,hk⟩:=he.rounds;have hlen:(xs.take n).length=n:=by rw[List.length_take];omega
 refine⟨xs.take n,⟨fK hd n,ht,by omega⟩,hv,(LM k g 0 neg A0 c0 xs _ w v0 v1 ((aj hb 0).trans rfl) ((aj hb 1).trans rfl) (au hb 0) (au hb 1) hU.now hc0 hk).mono fun e w' ⟨he,hw⟩=>?_⟩;subst hw;have hch:=yz (w:=w) (g:=g) ⟨g,0,none⟩ ⟨g,0+1,none⟩ rfl rfl (.bool (neg&& !(xs.take n).isEmpty)) (.slice A0 (xs.take n).length c0);refine⟨he,⟨A0,c0,?_,by omega,(hU.qj hch (fun k hk _=>by subst hk;exact Ha hb (by decide))).take hn⟩,hch⟩;have h1:=aN hb 0 (.bool (neg&& !(xs.take n).isEmpty));have h2:=aN h1 1 (.slice A0 (xs.take n).length c0);simpa using h2
attribute [local go_sem] max2_int min2_int max_two min_two max_three min_three max_four min_four
theorem EF (k:Nat)(A0:Option Addr)(c0:Nat)(l0:List Int)(r:List Int)(w:World)(hC0:Kd.C (Kd.int .i64) w A0 l0.length l0)(hc0:l0.length≤c0)(h:aG.f k l0=some r):
  Calls Tryz.prog 178 #[.slice A0 l0.length c0] w fun e w'=>e= .returned (.slice A0 r.length c0)∧Below w.heap.size w w':=by
 have zC:=zM hC0;have Hw:=zM hc0;have HB:=zM (Below.refl w.heap.size w);have H':=zM (show aG.l0 k l0=some r from h);clear h hC0 hc0;go_enter Tryz.func178,Tryz.ntmps178;go_wp2;go_loopg [0] k (fun kq v0 w'=>∃(aU:List Int),v0= .slice A0 aU.length c0∧Aside0 (aG.l0 kq aU=some r)∧Aside0 (kq≤k)∧Aside0 (Kd.C (Kd.int .i64) w' A0 aU.length aU)∧Aside0 (aU.length≤c0)∧Aside0 (Below w.heap.size w w'))
 case atStart=>exact⟨l0,rfl,H',⟨Nat.le_refl _⟩,zC,Hw,HB⟩
 case round=>
  clear H' zC;obtain⟨aU,rfl,HA,fM,bF,JB,HB⟩:=hrel;cases gk with
  |zero=>exact absurd HA.out (by simp[aG.l0])
  |succ k1=>
   have H:=HA.out;clear HA;simp only[aG.l0]at H
   by_cases c2:(aU.length:Int)>0
   ·rw[if_pos c2]at H;have kE:=zT c2;have xw:decide (0<aU.length)=true:=decide_eq_true (by omega);have hmax:=Kd.TV bF.out;have hw:wrap64 ((aU.length:Int)- 1)=(aU.length:Int)- 1:=fD (by omega) (by omega);rw[hw,if_pos (by omega),if_pos (by omega)]at H;obtain⟨gX,kz⟩:=zI ((aU.length:Int)- 1);rw[kz]at H;have Gv:(IntKind.i64.wrap ((aU.length:Int)- 1))=gX:=(dL _).trans (hw.trans kz);have abk:wrap64 ((aU.length:Int)- 1)=gX:=hw.trans kz;have l9:0≤gX:=by omega
    have oI:gX<(aU.length:Int):=by omega
    have hjle:gX≤(aU.length:Int):=by omega
    have Hji:=zM kz;clear c2 hmax hw kz;obtain⟨wH,IA,CW⟩:=Kd.dM bF.out gX l9 oI;cases IA
    by_cases c6:(rd aU gX)=0
    ·rw[if_pos c6,if_pos hjle]at H;have iP:((rd aU (gX))==0)=true:=beq_iff_eq.mpr c6;have og:((rd aU (gX)) !=0)=false:=bne_eq_false_iff_eq.mpr c6;clear c6;obtain⟨tY,pR⟩:∃y_:List Int,y_=(aU.take (gX:Int).toNat):=⟨_,rfl⟩;rw[←pR]at H;have uh:=zM pR;clear pR;have H':=zM H;clear H;obtain⟨Xo,oL,_,wO,_⟩:=info_parts info3;have sD:=xy (P:=Tryz.prog) 62 3 .i64 Tryz.underlying62 oL (some wH) aU.length c0 gX l9 hjle JB.out;have vZ:=zM (Kd.Dl bF.out (m:=gX.toNat) (by omega));have sN:tY.length=(gX:Int).toNat:=(by rw[uh.out,List.length_take];omega);rw[←uh.out]at vZ;rw[←sN]at sD;have FD:=zM (show tY.length≤c0 from by have:=JB.out;omega);have Y6:=zM sN;clear sN oL wO;replace l9:=eq_true l9;replace oI:=eq_true oI;replace hjle:=eq_true hjle;go_wp2;go_roundg k1
     case measure=>have:=fM.out;omega
     case rel=>exact⟨tY,rfl,H',⟨by have:=fM.out;omega⟩,vZ,FD,HB⟩
    ·rw[if_neg c6]at H;have iP:((rd aU (gX))==0)=false:=beq_eq_false_iff_ne.mpr c6;have og:((rd aU (gX)) !=0)=true:=bne_iff_ne.mpr c6;obtain rfl:=Option.some.inj H;clear hjle;replace l9:=eq_true l9;replace oI:=eq_true oI;go_wp2;go_ret;exact⟨rfl,HB.out⟩
   ·rw[if_neg c2]at H;have kE:=zF c2;have xw:decide (0<aU.length)=false:=decide_eq_false (by omega);clear c2;obtain rfl:=Option.some.inj H;go_wp2;go_ret;exact⟨rfl,HB.out⟩
theorem Yd (k:Nat):∀xs,aG.l0 k xs=dh.l0 k xs:=by
 induction k with
 |zero=>intro xs;rfl
 |succ k ih=>intro xs;simp only[aG.l0,dh.l0,ih]
theorem LD {w:World}{base:Nat}{e:TypeId}{A:Option Addr}{n c m:Nat}{xs:List Value}(h:w.ownsRow base e 1 (.slice A n c) n xs)(hm:m≤n):w.ownsRow base e 1 (.slice A m c) m (xs.take m):=by
 obtain⟨h1,h2⟩:=h;refine⟨by rw[List.length_take];omega,?_⟩;rcases h2 with⟨h3,h4⟩|⟨g,cap,cur,h3,h4,h5,h6,h7,h8,h9⟩
 ·injection h3 with e1 e2 e3;subst e1 e3;exact .inl ⟨by rw[show m=0 by omega],by omega⟩
 ·injection h3 with e1 e2 e3;subst e1 e3;refine .inr ⟨g,c,cur,rfl,h4,h5,by omega,h7,h8,?_⟩;rw[←h9,List.take_take]
  congr 1
  omega
def Rn (W:World)(base:Nat)(v:Value)(xs:List Int):Prop:=Kd.R (Kd.int .i64) 3 W base (fun k=>base≤k) v xs
theorem Rn.take {W:World}{base:Nat}{A:Option Addr}{c n m:Nat}{xs:List Int}(h:Rn W base (.slice A n c) xs)(hm:m≤xs.length):Rn W base (.slice A m c) (xs.take m):=by
 obtain⟨A2,c2,e,_⟩:=Kd.jE h;injection e with e1 e2 e3;subst e1 e2 e3;have h1:=LD (Kd.jd h) hm;have hl:(xs.take m).length=m:=by rw[List.length_take];omega
 refine Kd.iR ?_ (fun k hk=>h.1 k ?_)
 ·rw[hl];have:encs (Value.int .i64) (xs.take m)=(encs (Value.int .i64) xs).take m:=by simp[encs,List.map_take]
  rw[this];exact h1
 ·cases A with
  |none=>simp[Value.ownBlock]at hk
  |some a=>simpa[Value.ownBlock]using hk
theorem Jk (k:Nat):∀(xs r:List Int),aG.l0 k xs=some r→∃n,n≤xs.length∧r=xs.take n:=by
 induction k with
 |zero=>intro xs r h;simp[aG.l0]at h
 |succ k ih=>
  intro xs r h;simp only[aG.l0]at h;split at h
  ·split at h
   ·split at h
    ·split at h
     ·split at h
      ·obtain⟨n,hn,e⟩:=ih _ _ h;refine⟨n,by rw[List.length_take]at hn;omega,?_⟩;rw[e,List.take_take]
       congr 1
       rw[List.length_take]at hn;omega
      ·simp at h
     ·exact⟨xs.length,Nat.le_refl _,by rw[←Option.some.inj h,List.take_length]⟩
    ·simp at h
   ·simp at h
  ·exact⟨xs.length,Nat.le_refl _,by rw[←Option.some.inj h,List.take_length]⟩
theorem sO (k:Nat)(a0:ByteArray)(r:List Int)(w:World)(h:aA.f k a0=some r):
  Calls Tryz.prog 173 #[.string a0] w fun e w'=>∃A c,e= .returned (.slice A r.length c)∧Rn w' w.heap.size (.slice A r.length c) r∧Below w.heap.size w w':=by
 have HB:=zM (Below.refl w.heap.size w);have H:(aA.l0 k a0 ([]:List Int) (a0.size:Int))=some r:=h;clear h;have H':=zM H;clear H;go_enter Tryz.func173,Tryz.ntmps173;go_wp2;go_loopg [3,4] k (fun kq v3 v4 w'=>∃(fH:List Int) (dJ:Int),v4= .int .i64 dJ∧Aside0 (aA.l0 kq a0 fH dJ=some r)∧Aside0 (kq≤k)∧Aside0 (Kd.R (Kd.int .i64) 3 w' w.heap.size (fun k_=>(w.heap.size≤k_)) v3 fH)∧Aside0 (Below w.heap.size w w'))
 case atStart=>exact⟨(([]:List Int)),((a0.size:Int)),zR,H',⟨Nat.le_refl _⟩,⟨by first|exact Kd.jB _ _ _ _ _|exact Kd.FN _ _ _ _ _|exact Kd.FT _ _ _ _ _|exact Kd.FP _ _ _ _ _|exact Kd.tH _ _ _ _ _⟩,⟨zB⟩⟩
 case round=>
  clear H';try clear c1
  obtain⟨fH,dJ,rfl,HA,fM,ik,HB⟩:=hrel;cases gk with
  |zero=>exact absurd HA.out (by simp[aA.l0])
  |succ k1=>
   have H:=HA.out;clear HA;simp only[aA.l0]at H
   by_cases c2:dJ>0
   ·rw[if_pos c2]at H;have kE:=zT c2;clear c2;have QT:=zM H;clear H;go_upto_if 17 with(fail);go_cut [5] (fun v5 wc=>∃(kq:Nat) (kK:Int),v5= .int .i64 kK∧Aside0 (aA.j1 kq a0 fH dJ kK=some r)∧Aside0 (kq≤k1)∧Aside0 (Kd.R (Kd.int .i64) 3 wc w.heap.size (fun k_=>(w.heap.size≤k_)) u3 fH)∧Aside0 (Below w.heap.size w wc))
    case first=>
     have H:=QT.out;clear QT
     by_cases c4:(wrap64 (dJ- 4))<0
     ·rw[if_pos c4]at H;have ig:=zT c4;clear c4
      (first|rw[ig]|(simp only[dL,jK];rw[ig])|skip)
      have H':=zM H;clear H;go_wp2;go_meet
      case rel=>exact⟨_,(0),zR,H',⟨by have:=fM.out;first|omega|exact Nat.le_refl _⟩,⟨zO ik.out⟩,⟨zB⟩⟩
     ·rw[if_neg c4]at H;have ig:=zF c4;clear c4
      (first|rw[ig]|(simp only[dL,jK];rw[ig])|skip)
      have H':=zM H;clear H;go_wp2;go_meet
      case rel=>exact⟨_,(wrap64 (dJ- 4)),zR,H',⟨by have:=fM.out;first|omega|exact Nat.le_refl _⟩,⟨zO ik.out⟩,⟨zB⟩⟩
    case rest=>
     clear QT;try clear c1
     try clear c2
     try clear kE
     try clear p2
     try clear c4
     try clear ig
     obtain⟨kq,kK,rfl,HA,HJ2,ik,HB⟩:=hcut;cases kq with
     |zero=>exact absurd HA.out (by simp[aA.j1])
     |succ YO=>
      have H:=HA.out;clear HA;simp only[aA.j1]at H;have H':=zM H;clear H;go_wp2;go_loopg [6,7] YO (fun kq v6 v7 w'=>∃(xZ:Int) (gB:Int),v6= .int .i64 xZ∧v7= .int .i64 gB∧Aside0 (aA.l1 kq a0 fH dJ xZ gB=some r)∧Aside0 (kq≤YO)∧Aside0 (Kd.R (Kd.int .i64) 3 w' w.heap.size (fun k_=>(w.heap.size≤k_)) u3 fH)∧Aside0 (Below w.heap.size w w'))
      case atStart=>exact⟨(0),(kK),zR,zR,H',⟨Nat.le_refl _⟩,⟨zO ik.out⟩,⟨zB⟩⟩
      case round=>
       clear H';try clear c1
       try clear c2
       try clear kE
       try clear p2
       try clear c4
       try clear ig
       try clear p2
       obtain⟨xZ,gB,rfl,rfl,HA,yw,ik,HB⟩:=hrel;cases gk with
       |zero=>exact absurd HA.out (by simp[aA.l1])
       |succ k3=>
        have H:=HA.out;clear HA;simp only[aA.l1]at H
        by_cases c5:gB<dJ
        ·rw[if_pos c5]at H;have jJ:=zT c5;clear c5
         by_cases c6:0≤gB
         ·rw[if_pos c6]at H;have iP:=zT c6;clear c6
          by_cases c7:gB<(a0.size:Int)
          ·rw[if_pos c7]at H;have lZ:=zT c7;clear c7;have H':=zM H;clear H;have p8:0≤(gB:Int):=zD;have q8:gB<(a0.size:Int):=zD;have ZV:=dQ a0 gB;replace p8:=eq_true p8;replace q8:=eq_true q8;go_wp2;go_roundg k3
           case measure=>have:=fM.out;have:=HJ2.out;have:=yw.out;omega
           case rel=>exact⟨(wrap64 ((wrap64 (10*xZ))+(((bt a0 gB)- 48)%256))),(wrap64 (gB+1)),zR,zR,H',⟨by have:=fM.out;have:=HJ2.out;have:=yw.out;omega⟩,⟨zO ik.out⟩,⟨zB⟩⟩
          ·rw[if_neg c7]at H;exact absurd H (by simp)
         ·rw[if_neg c6]at H;exact absurd H (by simp)
        ·rw[if_neg c5]at H;have jJ:=zF c5;clear c5
         by_cases c9:fH.length<17592186044416
         ·rw[if_pos c9]at H;have abX:=zM c9;clear c9;obtain⟨YA,Ea⟩:∃y_:List Int,y_=(fH++[xZ]):=⟨_,rfl⟩;replace H:(aA.l0 k3 a0 YA (wrap64 (dJ- 4)))=some r:=zY Ea H;have Uy:=zM Ea;clear Ea;have H':=zM H;clear H;go_wp2_with (first|((with_reducible refine bK (b:= .append) (xs:= #[.tmp 32,.tmp 34]) rfl ?_);at_builtin;refine Kd.dZ (Kd.int .i64) (w0:=w) w.heap.size rfl (.tmp 32) (.tmp 34) 62 3 (.int .i64 0) 8 rfl Tryz.underlying62 info3 rfl (by decide) (by omega) u3 fH xZ [.int .i64 xZ] (fun k_=>(w.heap.size≤k_)) (fun _=>False) rfl rfl ?aP (fun _ hk=>hk.elim) ?aF ?aO ?aB ?aS ?aL ?_;(case aP=>exact rfl);(case aB=>exact(by repeat(first|(with_reducible first|exact HB.out|apply ag|apply ai|apply aC)|exact HB.out)));(case aF=>exact(fun k_ hk=>(Nat.le_trans (bP (by repeat(first|(with_reducible first|exact HB.out|apply ag|apply ai|apply aC)|exact HB.out))) hk)));(case aO=>exact(by(with_reducible repeat(first|apply Kd.dC|apply Kd.dD|apply Kd.dR));exact ik.out));(case aS=>exact(bP (by repeat(first|(with_reducible first|exact HB.out|apply ag|apply ai|apply aC)|exact HB.out))));(case aL=>have:=abX.out;omega);intro v206 w10 ho hb hg hat;rw[←Uy.out]at ho;have dI:=zM (hb);have dG:=zM (ho);clear HB;clear ik;have HB:=dI;have Uh:=dG;clear dI dG;clear ho hb hg hat));go_roundg k3
          case measure=>have:=fM.out;have:=HJ2.out;have:=yw.out;omega
          case rel=>exact⟨(YA),(wrap64 (dJ- 4)),zR,H',⟨by have:=fM.out;have:=HJ2.out;have:=yw.out;omega⟩,⟨zO Uh.out⟩,⟨zB⟩⟩
         ·rw[if_neg c9]at H;exact absurd H (by simp)
   ·rw[if_neg c2]at H;have kE:=zF c2;clear c2;replace H:=Option.bind_eq_some_iff.mp H;obtain⟨t202,TR,H⟩:=H;replace H:(some t202)=some r:=H;have A11:=zM TR;clear TR;obtain rfl:=Option.some.inj H;obtain⟨Nj,ET,zQ⟩:=Kd.fO ik.out;subst zQ;go_wp2_with fail;refine(EF k1 Nj ET fH t202 _ (Kd.dA ik.out).2.2 (Kd.dA ik.out).2.1 A11.out).mono ?_;rintro e w3 ⟨rfl,h1⟩;have HF:=zM h1;clear h1;go_wp2_with fail;go_ret;obtain⟨n,hn,e⟩:=Jk k1 _ _ A11.out;have hl:t202.length=n:=by rw[e,List.length_take];omega
    refine⟨Nj,ET,rfl,?_,ah HB.out HB.out.size HF.out⟩;have h:=Rn.take (m:=n) (Kd.dK ik.out HF.out) hn;rw[←e,←hl]at h;exact h
end Go.Proofs.YthbdjmopolpjmaaGreatDoor.C
namespace Go.Proofs.YthbdjmopolpjmaaGreatDoor.M
open Go.RowKit Go.Proofs.YthbdjmopolpjmaaGreatDoorW.PrintWords Go.Proofs.YthbdjmopolpjmaaGreatDoorW.PrintLast Go.Proofs.YthbdjmopolpjmaaGreatDoorW.PrintMore Go.Proofs.YthbdjmopolpjmaaGreatDoor.F Go.Proofs.YthbdjmopolpjmaaGreatDoor.C
theorem qH (B:Int)(w:List Int)(hl:w.length≤9223372036854775807):∃n,n≤w.length∧Trim (w.take n)∧val B (w.take n)=val B w∧Ev (fun k=>aG.f k w) (w.take n):=by
 obtain⟨n,h1,h2,h3,h4⟩:=sZ B w hl;exact⟨n,h1,h2,h3,Ev.congr (fun k=>Yd k w) h4⟩
theorem tu (B:Int):∀(xs:List Int) (i:Nat) (v:Int),i<xs.length→val B (xs.set i v)=val B xs+(v- rd xs (i:Int))*B^i
 | [],i,v,h=>by simp at h
 |x::xs,0,v,h=>by simp[val,rd];omega
 |x::xs,i+1,v,h=>by
  have ih:=tu B xs i v (by simpa using h);have e:rd (x::xs) ((i+1:Nat):Int)=rd xs (i:Int):=by simp[rd]
  rw[e,List.set_cons_succ];simp only[val];rw[ih,Int.pow_succ];grind
theorem QM {x:Int}(h:0≤x):Int.tmod x 10000=x%10000:=Int.tmod_eq_emod_of_nonneg h
theorem QJ {x:Int}(h:0≤x):Int.tdiv x 10000=x/10000:=Int.tdiv_eq_ediv_of_nonneg h
theorem Ya {xs ys:List Int}(hx:gV 10000 xs)(hy:gV 10000 ys)(hl:xs.length=ys.length)(hm:xs.length≤9223372036854775807):∀(m:Nat),m≤xs.length→xs.drop m=ys.drop m→
  Ev (fun k=>aZ.l0 k xs ys ((m:Int)- 1)) (decide (val 10000 xs<val 10000 ys)):=by
 intro m
 induction m with
 |zero=>
  intro _ hd;simp only[List.drop_zero]at hd;subst hd;rw[decide_eq_false (by omega)];exact Ev.step (f:=fun _=>some false) (fun k=>by simp only[aZ.l0];rw[if_neg (by omega)]) (Ev.now _)
 |succ m ih=>
  intro hle hd;have e:(((m+1:Nat):Int)- 1)=(m:Int):=by omega
  rw[e]
  by_cases h:rd xs m=rd ys m
  ·refine Ev.step (fun k=>?_) (ih (by omega) (by rw[kP xs m (by omega),kP ys m (by omega),h,hd]));simp only[aZ.l0];rw[if_pos (by omega),if_pos (by omega),if_pos (by omega),if_pos (by omega),if_pos h,fD (by omega) (by omega)]
  ·have hb:decide (rd xs m<rd ys m)=decide (val 10000 xs<val 10000 ys):=by
    by_cases hlt:rd xs m<rd ys m
    ·rw[decide_eq_true hlt,decide_eq_true (vU (by omega) hx hy (show m<xs.length by omega) (by omega) hd hlt)]
    ·have:=vU (B:=10000) (by omega) hy hx (show m<ys.length by omega) (by omega) hd.symm (show rd ys m<rd xs m by omega);rw[decide_eq_false hlt,decide_eq_false (by omega)]
   rw[←hb];refine Ev.step (f:=fun _=>some (decide (rd xs m<rd ys m))) (fun k=>?_) (Ev.now _);simp only[aZ.l0];rw[if_pos (by omega),if_pos (by omega),if_pos (by omega),if_pos (by omega),if_neg h]
theorem uN {xs ys:List Int}(hx:gV 10000 xs)(hy:gV 10000 ys)(tx:Trim xs)(ty:Trim ys)(hmx:xs.length≤4611686018427387904)(hmy:ys.length≤4611686018427387904):
  Ev (fun k=>aZ.f k xs ys) (decide (val 10000 xs<val 10000 ys)):=by
 by_cases hl:xs.length=ys.length
 ·refine Ev.congr (fun k=>?_) (Ya hx hy hl (by omega) xs.length (Nat.le_refl _) (by rw[List.drop_length,List.drop_of_length_le (by omega)]));unfold aZ.f;rw[if_pos (by omega),fD (by omega) (by omega)]
 ·have hb:decide ((xs.length:Int)<(ys.length:Int))=decide (val 10000 xs<val 10000 ys):=by
   by_cases h:xs.length<ys.length
   ·rw[decide_eq_true (by omega),decide_eq_true (ku (B:=10000) (by omega) hx hy ty h)]
   ·have:=ku (B:=10000) (by omega) hy hx tx (show ys.length<xs.length by omega);rw[decide_eq_false (by omega),decide_eq_false (by omega)]
  rw[←hb];refine Ev.congr (f:=fun _=>some (decide ((xs.length:Int)<(ys.length:Int)))) (fun k=>?_) (Ev.now _);unfold aZ.f;rw[if_neg (by omega)]
theorem U1 (x0 x1:List Int)(i:Int){L:Nat}(hL:L≤1000000):∀(d pos:Nat) (out:List Int) (c:Int),pos+d=L→out.length=L→gV 10000 out→0≤c→c<1000000→val 10000 out+c*10000^pos<10000^L→
  ∃out',out'.length=L∧gV 10000 out'∧val 10000 out'=val 10000 out+c*10000^pos∧∀r,Ev (fun k=>ak.l0 k x0 x1 out' (wrap64 (i+1))) r→Ev (fun k=>ak.l2 k x0 x1 out i c (pos:Int)) r:=by
 intro d
 induction d with
 |zero=>
  intro pos out c hp hl hd h0 h1 hv;obtain rfl:pos=L:=by omega
  have hc:c=0:=by
   have hn:=dW (B:=10000) (by omega) hd;have hpp:(0:Int)<10000^pos:=Int.pow_pos (by decide);rcases Int.lt_or_eq_of_le h0 with h|h
   ·have:=Int.mul_le_mul_of_nonneg_right (show 1≤c by omega) (Int.le_of_lt hpp);omega
   ·exact h.symm
  subst hc;refine⟨out,hl,hd,by omega,fun r hr=>Ev.step (fun k=>?_) hr⟩;simp only[ak.l2];rw[if_neg (by omega)]
 |succ d ih=>
  intro pos out c hp hl hd h0 h1 hv
  by_cases hc:c>0
  ·have bx:=gG hd pos (by simp;omega);have hdg:0≤(c+rd out pos)%10000∧(c+rd out pos)%10000<10000:=by omega
   have hvs:=tu 10000 out pos ((c+rd out pos)%10000) (by omega);have hq:c+rd out pos=(c+rd out pos)%10000+10000*((c+rd out pos)/10000):=by omega
   have hval:val 10000 (out.set pos ((c+rd out pos)%10000))+((c+rd out pos)/10000)*10000^(pos+1)=val 10000 out+c*10000^pos:=by
    rw[hvs,Int.pow_succ];generalize(c+rd out pos)%10000=lo at *;generalize(c+rd out pos)/10000=hi at *;generalize(10000:Int)^pos=P at *;grind
   obtain⟨out',o1,o2,o3,o4⟩:=ih (pos+1) (out.set pos ((c+rd out pos)%10000)) ((c+rd out pos)/10000) (by omega) (by simpa using hl) (jF hd pos hdg) (by omega) (by omega) (by rw[hval];exact hv);refine⟨out',o1,o2,by rw[o3,hval],fun r hr=>Ev.step (fun k=>?_) (o4 r hr)⟩;simp only[ak.l2];rw[if_pos hc,if_pos (by omega),if_pos (by omega),fD (n:=c+rd out pos) (by omega) (by omega),QM (by omega),QJ (by omega),fD (by omega) (by omega),fD (by omega) (by omega),Int.toNat_natCast];rfl
  ·obtain rfl:c=0:=by omega
   refine⟨out,hl,hd,by omega,fun r hr=>Ev.step (fun k=>?_) hr⟩;simp only[ak.l2];rw[if_neg (by omega)]
theorem GI {x y:Int}(hx0:0≤x)(hx:x<10000)(hy0:0≤y)(hy:y<10000):0≤x*y∧x*y≤99980001:=by
 have h1:=Int.mul_nonneg hx0 hy0;have h2:=Int.mul_le_mul (show x≤9999 by omega) (show y≤9999 by omega) hy0 (by omega);omega
theorem Ym {y:List Int}{q:Int}(hy:gV 10000 y)(h0:0≤q)(h1:q<10000)(hl:y.length≤100000):∀(d i:Nat) (out:List Int),i+d=y.length→out.length=y.length+1→gV 10000 out→val 10000 out=val 10000 (y.take i)*q→
  ∃r,Ev (fun k=>ak.l0 k y [q] out (i:Int)) r∧gV 10000 r∧Trim r∧r.length≤y.length+1∧val 10000 r=val 10000 y*q:=by
 intro d
 induction d with
 |zero=>
  intro i out hi hol hod hv;obtain rfl:i=y.length:=by omega
  rw[List.take_length]at hv;obtain⟨n,hn,ht,hvn,he⟩:=qH 10000 out (by omega);refine⟨out.take n,Ev.step (f:=fun k=>(aG.f k out).bind fun t=>some t) (fun k=>?_) (Ev.bind he (Ev.now _)),fK hod n,ht,by rw[List.length_take];omega,by rw[hvn,hv]⟩;simp only[ak.l0];rw[if_neg (by omega)]
 |succ d ih=>
  intro i out hi hol hod hv;have bx:=gG hod i (by simp;omega);have by_:=gG hy i (by simp;omega);have bm:=GI by_.1 by_.2 h0 h1;have hts:=dP 10000 y i (by omega)
  have hT:val 10000 (y.take (i+1))*q<10000^(i+1)*10000:=by
   have h2:=lY (B:=10000) (by omega) (fK hy (i+1));rw[List.length_take,Nat.min_eq_left (by omega)]at h2;have h3:=dW (B:=10000) (by omega) (fK hy (i+1));have h4:=Int.mul_le_mul_of_nonneg_left (show q≤10000 by omega) h3;omega
  have hL:(10000:Int)^(i+1)*10000≤10000^(y.length+1):=by
   rw[←Int.pow_succ];exact kH (by omega) (by omega)
  have hs:val 10000 (out.set i ((rd out i+rd y i*q)%10000))+(rd out i+rd y i*q)/10000*10000^(i+1)=val 10000 (y.take (i+1))*q:=by
   rw[tu 10000 out i _ (by omega),hts,hv,Int.pow_succ];have hq:rd out i+rd y i*q=(rd out i+rd y i*q)%10000+10000*((rd out i+rd y i*q)/10000):=by omega
   generalize(rd out i+rd y i*q)%10000=lo at *;generalize(rd out i+rd y i*q)/10000=hi at *;generalize(10000:Int)^i=P at *;grind
  obtain⟨out',o1,o2,o3,o4⟩:=U1 y [q] (i:Int) (L:=y.length+1) (by omega) (y.length- i) (i+1) (out.set i ((rd out i+rd y i*q)%10000)) ((rd out i+rd y i*q)/10000) (by omega) (by simpa using hol) (jF hod i (by omega)) (by omega) (by omega) (by rw[hs];omega);obtain⟨r,he,h⟩:=ih (i+1) out' (by omega) o1 o2 (by rw[o3,hs]);refine⟨r,Ev.step (f:=fun k=>ak.l1 k y [q] out (i:Int) 0 0) (fun k=>?_) (Ev.step (f:=fun k=>ak.l1 k y [q] (out.set i ((rd out i+rd y i*q)%10000)) (i:Int) ((rd out i+rd y i*q)/10000) 1) (fun k=>?_) (Ev.step (fun k=>?_) (o4 r ?_))),h⟩
  ·simp only[ak.l0];rw[if_pos (by omega)]
  ·simp only[ak.l1];have e1:rd [q] 0=q:=rfl;have e2:((i:Int)+0)=(i:Int):=by omega
   rw[if_pos (by simp),e2,fD (n:=(i:Int)) (by omega) (by omega),if_pos (by omega),if_pos (by omega),if_pos (by omega),if_pos (by omega),if_pos (by omega),e1,
    fD (n:=0+rd out i) (by omega) (by omega),fD (n:=rd y i*q) (by omega) (by omega),show(0+rd out i+rd y i*q)=rd out i+rd y i*q by omega,fD (n:=rd out i+rd y i*q) (by omega) (by omega),QM (by omega),QJ (by omega),fD (by omega) (by omega),fD (by omega) (by omega),Int.toNat_natCast]
   rfl
  ·simp only[ak.l1];rw[if_neg (by simp),show(([q]:List Int).length:Int)=1 from rfl,fD (by omega) (by omega)];rfl
  ·rw[fD (by omega) (by omega)];exact he
theorem MJ {y:List Int}{q:Int}(hy:gV 10000 y)(h0:0≤q)(h1:q<10000)(hl:y.length≤100000):
  ∃r,Ev (fun k=>ak.f k y [q]) r∧gV 10000 r∧Trim r∧r.length≤y.length+1∧val 10000 r=val 10000 y*q:=by
 obtain⟨r,he,h⟩:=Ym hy h0 h1 hl y.length 0 (List.replicate (y.length+1) 0) (by omega) (by simp) (jA (by omega) _) (by rw[nM];simp[val]);refine⟨r,Ev.congr (fun k=>?_) he,h⟩;unfold ak.f;rw[show(([q]:List Int).length:Int)=1 from rfl,fD (by omega) (by omega),if_pos (by omega),if_pos (by omega),show((y.length:Int)+1).toNat=y.length+1 by omega];rfl
theorem Zx {x y:List Int}{up:Nat}(hx:gV 10000 x)(hy:gV 10000 y)(hup:up≤x.length)(hxl:x.length≤100000)(hyl:y.length≤100000):∀(d:Nat) (low high:Int),(high- low).toNat≤d→0≤low→low≤high→high≤9999→
  low*val 10000 y≤val 10000 (x.drop up)→val 10000 (x.drop up)<(high+1)*val 10000 y→
  ∃r,Ev (fun k=>aY.l0 k x y (up:Int) low high) r∧0≤r∧r<10000∧r*val 10000 y≤val 10000 (x.drop up)∧val 10000 (x.drop up)<(r+1)*val 10000 y:=by
 intro d
 induction d with
 |zero=>
  intro low high hd h0 h1 h2 h3 h4;obtain rfl:low=high:=by omega
  refine⟨low,Ev.step (f:=fun _=>some low) (fun k=>?_) (Ev.now _),h0,by omega,h3,h4⟩;simp only[aY.l0];rw[if_neg (by omega)]
 |succ d ih=>
  intro low high hd h0 h1 h2 h3 h4
  by_cases hlt:low<high
  case neg=>
   obtain rfl:low=high:=by omega
   refine⟨low,Ev.step (f:=fun _=>some low) (fun k=>?_) (Ev.now _),h0,by omega,h3,h4⟩;simp only[aY.l0];rw[if_neg (by omega)]
  obtain⟨q,hq⟩:∃q,(low+high+1)/2=q:=⟨_,rfl⟩;have hqb:low<q∧q≤high:=by omega
  have hqe:wrap64 (Int.tdiv (wrap64 ((wrap64 (low+high))+1)) 2)=q:=by
   rw[fD (n:=low+high) (by omega) (by omega),fD (n:=low+high+1) (by omega) (by omega),Int.tdiv_eq_ediv_of_nonneg (by omega),hq,fD (by omega) (by omega)]
  obtain⟨p,hp,pd,pt,pl,pv⟩:=MJ (q:=q) hy (by omega) (by omega) hyl;obtain⟨n,hn,ht,hvn,hen⟩:=qH 10000 (x.drop up) (by rw[List.length_drop];omega);have hless:=uN (fK (lX hx up) n) pd ht pt (by rw[List.length_take,List.length_drop];omega) (by omega);rw[hvn,pv]at hless
  by_cases hb:val 10000 (x.drop up)<val 10000 y*q
  ·rw[decide_eq_true hb]at hless;obtain⟨r,he,h⟩:=ih low (q- 1) (by omega) h0 (by omega) (by omega) h3 (by rw[show q- 1+1=q by omega,Int.mul_comm];exact hb);refine⟨r,Ev.step (f:=fun k=>(ak.f k y [q]).bind fun t227=>(aG.f k (x.drop up)).bind fun t231=>(aZ.f k t231 t227).bind fun t234=>if t234=true then aY.l0 k x y (up:Int) low (q- 1)else aY.l0 k x y (up:Int) q high) (fun k=>?_) (Ev.bind hp (Ev.bind hen (Ev.bind hless (Ev.congr (fun k=>by rw[if_pos rfl]) he)))),h⟩;simp only[aY.l0];rw[if_pos hlt,hqe,fD (n:=q- 1) (by omega) (by omega)]
   congr 1
   funext t;rw[if_pos (by omega),if_pos (by omega),Int.toNat_natCast]
  ·rw[decide_eq_false hb]at hless;obtain⟨r,he,h⟩:=ih q high (by omega) (by omega) (by omega) (by omega) (by rw[Int.mul_comm];omega) h4;refine⟨r,Ev.step (f:=fun k=>(ak.f k y [q]).bind fun t227=>(aG.f k (x.drop up)).bind fun t231=>(aZ.f k t231 t227).bind fun t234=>if t234=true then aY.l0 k x y (up:Int) low (q- 1)else aY.l0 k x y (up:Int) q high) (fun k=>?_) (Ev.bind hp (Ev.bind hen (Ev.bind hless (Ev.congr (fun k=>by rw[if_neg (by simp)]) he)))),h⟩;simp only[aY.l0];rw[if_pos hlt,hqe,fD (n:=q- 1) (by omega) (by omega)]
   congr 1
   funext t;rw[if_pos (by omega),if_pos (by omega),Int.toNat_natCast]
theorem Oc {x y:List Int}{up:Nat}(hx:gV 10000 x)(hy:gV 10000 y)(hup:up≤x.length)(hxl:x.length≤100000)(hyl:y.length≤100000)(h:val 10000 (x.drop up)<10000*val 10000 y):
  ∃r,Ev (fun k=>aY.f k x y (up:Int)) r∧0≤r∧r<10000∧r*val 10000 y≤val 10000 (x.drop up)∧val 10000 (x.drop up)<(r+1)*val 10000 y:=
 Zx hx hy hup hxl hyl 9999 0 9999 (by omega) (by omega) (by omega) (by omega) (by have:=dW (B:=10000) (by omega) (lX hx up);omega) h
def MX (d:Int):Int:=if d<0 then(-d+9999)/10000 else 0
theorem Q7 {d:Int}(h0: -100000000≤d)(h1:d<10000):0≤MX d∧MX d≤10000∧0≤d+MX d*10000∧d+MX d*10000<10000:=by
 unfold MX;split<;>omega
theorem Ru (x:List Int)(up k:Nat)(v:Int):(x.set (up+k) v).drop up=(x.drop up).set k v:=by
 rw[List.drop_set];rw[if_neg (by omega),show up+k- up=k by omega]
theorem QG (x:List Int)(up k:Nat):rd (x.drop up) (k:Int)=rd x ((up+k:Nat):Int):=by
 unfold rd;rw[Int.toNat_natCast,Int.toNat_natCast];simp[List.getD_eq_getElem?_getD,List.getElem?_drop]
theorem PL {x y:List Int}{q c:Int}{up k:Nat}(n:Nat)(hi:up+k<x.length)(hxl:x.length≤100000)(hk:k<y.length)(bx0:0≤rd x ((up+k:Nat):Int))(bx1:rd x ((up+k:Nat):Int)<10000)(hc0:0≤c)(hc1:c≤10000)(bm0:0≤q*rd y (k:Int))(bm1:q*rd y (k:Int)≤99980001):
  aH.j1 (n+1) x y (up:Int) q c (k:Int) true=aH.l0 n (x.set (up+k) (rd x ((up+k:Nat):Int)- c- q*rd y (k:Int)+MX (rd x ((up+k:Nat):Int)- c- q*rd y (k:Int))*10000)) y (up:Int) q (MX (rd x ((up+k:Nat):Int)- c- q*rd y (k:Int))) ((k+1:Nat):Int):=by
 have hik:(up:Int)+(k:Int)=((up+k:Nat):Int):=by omega
 have hw:wrap64 ((up:Int)+(k:Int))=((up+k:Nat):Int):=by rw[fD (by omega) (by omega),hik]
 simp only[aH.j1,hw];generalize rd x ((up+k:Nat):Int)=X at *;generalize q*rd y (k:Int)=Y at *;have f1:(0:Int)≤((up+k:Nat):Int):=by omega
 have f2:((up+k:Nat):Int)<(x.length:Int):=by omega
 have f3:(k:Int)<(y.length:Int):=by omega
 have f4:(0:Int)≤(k:Int):=by omega
 rw[if_pos trivial,if_pos f1,if_pos f2,if_pos f3,if_pos f4,fD (n:=X- c) (by omega) (by omega),fD (n:=Y) (by omega) (by omega),fD (n:=X- c- Y) (by omega) (by omega),Int.toNat_natCast,fD (n:=(k:Int)+1) (by omega) (by omega)];have hD0: -100000000≤X- c- Y:=by omega
 have hD1:X- c- Y<10000:=by omega
 generalize X- c- Y=D at *
 by_cases hD:D<0
 ·rw[if_pos hD,fD (n:= -D) (by omega) (by omega),fD (n:= -D+10000) (by omega) (by omega),fD (n:= -D+10000- 1) (by omega) (by omega),Int.tdiv_eq_ediv_of_nonneg (by omega),show -D+10000- 1= -D+9999 by omega,fD (n:=(-D+9999)/10000) (by omega) (by omega),fD (n:=(-D+9999)/10000*10000) (by omega) (by omega),fD (by omega) (by omega)];rw[show MX D=(-D+9999)/10000 from if_pos hD];rfl
 ·rw[if_neg hD];rw[show MX D=0 from if_neg hD,show D+0*10000=D by omega];rfl
theorem MG {x y:List Int}{q c:Int}{up k:Nat}(n:Nat)(hi:up+k<x.length)(hxl:x.length≤100000)(hk:¬k<y.length)(bx0:0≤rd x ((up+k:Nat):Int))(bx1:rd x ((up+k:Nat):Int)<10000)(hc0:0≤c)(hc1:c≤10000):
  aH.j1 (n+1) x y (up:Int) q c (k:Int) true=aH.l0 n (x.set (up+k) (rd x ((up+k:Nat):Int)- c- 0+MX (rd x ((up+k:Nat):Int)- c- 0)*10000)) y (up:Int) q (MX (rd x ((up+k:Nat):Int)- c- 0)) ((k+1:Nat):Int):=by
 have hik:(up:Int)+(k:Int)=((up+k:Nat):Int):=by omega
 have hw:wrap64 ((up:Int)+(k:Int))=((up+k:Nat):Int):=by rw[fD (by omega) (by omega),hik]
 simp only[aH.j1,hw];generalize rd x ((up+k:Nat):Int)=X at *;have f1:(0:Int)≤((up+k:Nat):Int):=by omega
 have f2:((up+k:Nat):Int)<(x.length:Int):=by omega
 have f3:¬(k:Int)<(y.length:Int):=by omega
 rw[if_pos trivial,if_pos f1,if_pos f2,if_neg f3,fD (n:=X- c) (by omega) (by omega),Int.toNat_natCast,fD (n:=(k:Int)+1) (by omega) (by omega),show X- c- 0=X- c by omega];have hD0: -100000000≤X- c:=by omega
 have hD1:X- c<10000:=by omega
 generalize X- c=D at *
 by_cases hD:D<0
 ·rw[if_pos hD,fD (n:= -D) (by omega) (by omega),fD (n:= -D+10000) (by omega) (by omega),fD (n:= -D+10000- 1) (by omega) (by omega),Int.tdiv_eq_ediv_of_nonneg (by omega),show -D+10000- 1= -D+9999 by omega,fD (n:=(-D+9999)/10000) (by omega) (by omega),fD (n:=(-D+9999)/10000*10000) (by omega) (by omega),fD (by omega) (by omega)];rw[show MX D=(-D+9999)/10000 from if_pos hD];rfl
 ·rw[if_neg hD];rw[show MX D=0 from if_neg hD,show D+0*10000=D by omega];rfl
theorem aau {y:List Int}{q:Int}(hy:gV 10000 y)(h0:0≤q)(h1:q<10000){L up:Nat}(hup:up+y.length≤L)(hL:L≤100000){V0:Int}{T0:List Int}(hV:q*val 10000 y≤V0):
  ∀(m k:Nat) (x:List Int) (c:Int),up+k+m=L→x.length=L→gV 10000 x→x.take up=T0→0≤c→c≤10000→val 10000 (x.drop up)=V0- q*val 10000 (y.take k)+c*10000^k→
  ∃r,Ev (fun n=>aH.l0 n x y (up:Int) q c (k:Int)) r∧r.length=L∧gV 10000 r∧r.take up=T0∧val 10000 (r.drop up)=V0- q*val 10000 y:=by
 intro m
 induction m with
 |zero=>
  intro k x c hm hl hd ht hc0 hc1 hv;have hk:y.length≤k:=by omega
  rw[List.take_of_length_le hk]at hv;have hlt:=lY (B:=10000) (by omega) (lX hd up);rw[List.length_drop,show x.length- up=k by omega]at hlt;have hpp:(0:Int)<10000^k:=Int.pow_pos (by decide)
  have hc:c=0:=by
   rcases Int.lt_or_eq_of_le hc0 with h|h
   ·have:=Int.mul_le_mul_of_nonneg_right (show 1≤c by omega) (Int.le_of_lt hpp);omega
   ·exact h.symm
  subst hc;refine⟨x,Ev.step (f:=fun n=>aH.j1 n x y (up:Int) q 0 (k:Int) false) (fun n=>?_) (Ev.step (f:=fun _=>some x) (fun n=>by simp[aH.j1]) (Ev.now _)),hl,hd,ht,by omega⟩;simp only[aH.l0];rw[if_neg (by omega)];rfl
 |succ m ih=>
  intro k x c hm hl hd ht hc0 hc1 hv;have HV:=zM (zA hv hV);clear hv hV;have bx:=gG hd ((up+k:Nat):Int) (by rw[Int.toNat_natCast];omega);have hlen:k<(x.drop up).length:=by rw[List.length_drop];omega
  have g1:up+k<x.length:=by omega
  have g2:x.length≤100000:=by omega
  have hik:(up:Int)+(k:Int)=((up+k:Nat):Int):=by omega
  have hw:wrap64 ((up:Int)+(k:Int))=((up+k:Nat):Int):=by rw[fD (by omega) (by omega),hik]
  have go:∀t:Int,0≤t→t≤99980001→q*val 10000 (y.take (k+1))=q*val 10000 (y.take k)+t*10000^k→
    ∃r,Ev (fun n=>aH.l0 n (x.set (up+k) (rd x ((up+k:Nat):Int)- c- t+MX (rd x ((up+k:Nat):Int)- c- t)*10000)) y (up:Int) q (MX (rd x ((up+k:Nat):Int)- c- t)) ((k+1:Nat):Int)) r∧r.length=L∧gV 10000 r∧r.take up=T0∧val 10000 (r.drop up)=V0- q*val 10000 y:=by
   intro t t0 t1 hq;have HQ:=zM hq;clear hq;have hb:=Q7 (d:=rd x ((up+k:Nat):Int)- c- t) (by omega) (by omega);refine ih (k+1) _ _ (by omega) (by simpa using hl) (jF hd _ ⟨hb.2.2.1,hb.2.2.2⟩) ?_ hb.1 hb.2.1 ?_
   ·rw[List.take_set_of_le (by omega)];exact ht
   ·rw[Ru,tu 10000 (x.drop up) k _ hlen,QG,HV.out.1,HQ.out,Int.pow_succ];clear HQ HV hb;generalize MX (rd x ((up+k:Nat):Int)- c- t)=b;generalize(10000:Int)^k=P;generalize q*val 10000 (y.take k)=Z;grind
  by_cases hk:k<y.length
  ·have by_:=gG hy k (by simp;omega);have bm:=GI h0 h1 by_.1 by_.2;obtain⟨r,he,h⟩:=go (q*rd y (k:Int)) bm.1 bm.2 (by rw[dP 10000 y k hk];grind);refine⟨r,Ev.step (f:=fun n=>aH.j1 n x y (up:Int) q c (k:Int) true) (fun n=>?_) (Ev.step (fun n=>?_) he),h⟩
   ·simp only[aH.l0];rw[if_pos (by omega)]
   ·exact PL n g1 g2 hk bx.1 bx.2 hc0 hc1 bm.1 bm.2
  ·by_cases hc:c>0
   ·obtain⟨r,he,h⟩:=go 0 (by omega) (by omega) (by rw[List.take_of_length_le (by omega),List.take_of_length_le (by omega)];omega);refine⟨r,Ev.step (f:=fun n=>aH.j1 n x y (up:Int) q c (k:Int) true) (fun n=>?_) (Ev.step (fun n=>?_) he),h⟩
    ·simp only[aH.l0];rw[if_neg (by omega),decide_eq_true hc]
    ·exact MG n g1 g2 hk bx.1 bx.2 hc0 hc1
   ·obtain rfl:c=0:=by omega
    have hv:=HV.out.1;rw[List.take_of_length_le (show y.length≤k by omega)]at hv;refine⟨x,Ev.step (f:=fun n=>aH.j1 n x y (up:Int) q 0 (k:Int) false) (fun n=>?_) (Ev.step (f:=fun _=>some x) (fun n=>by simp[aH.j1]) (Ev.now _)),hl,hd,ht,by omega⟩;simp only[aH.l0];rw[if_neg (by omega)];rfl
theorem PM {x y:List Int}{q:Int}{up:Nat}(hx:gV 10000 x)(hy:gV 10000 y)(h0:0≤q)(h1:q<10000)(hup:up+y.length≤x.length)(hL:x.length≤100000)(hV:q*val 10000 y≤val 10000 (x.drop up)):
  ∃r,Ev (fun n=>aH.f n x y (up:Int) q) r∧r.length=x.length∧gV 10000 r∧r.take up=x.take up∧val 10000 (r.drop up)=val 10000 (x.drop up)- q*val 10000 y:=
 aau hy h0 h1 hup hL hV (x.length- up) 0 x 0 (by omega) rfl hx rfl (by omega) (by omega) (by simp[val])
def Canon (s:ByteArray):Prop:=0<s.size∧(bt s 0=48→s.size≤1)∧Num (bytesOf s)
theorem lU.canon {s:ByteArray}(h:lU s):Canon s:=⟨h.1,h.2.2⟩
theorem XA (s:ByteArray)(x3:List Int)(hx:x3.length<17592186044416)(hs:s.size≤1000000)(hn:Num (bytesOf s))(e:Nat)(he:e≤s.size):∀(d i:Nat) (n:Int),i+d=e→d≤4→0≤n→(n+1)*10^d≤10000→∀r,
  Ev (fun k=>aA.l0 k s (x3++[dec n (((bytesOf s).take e).drop i)]) (wrap64 ((e:Int)- 4))) r→Ev (fun k=>aA.l1 k s x3 (e:Int) n (i:Int)) r:=by
 intro d
 induction d with
 |zero=>
  intro i n hi hd h0 h1 r hr;obtain rfl:i=e:=by omega
  rw[List.drop_of_length_le (by rw[List.length_take];omega)]at hr;refine Ev.step (fun k=>?_) hr;simp only[aA.l1];rw[if_neg (by omega),if_pos hx];rfl
 |succ d ih=>
  intro i n hi hd h0 h1 r hr;have hl:=bytesOf_length s;have hc:=Ac hn (i:Int) (by rw[hl,Int.toNat_natCast];omega);have hb:=gW s (i:Int);rw[hb]at hc;have hp:(1:Int)≤10^d:=by have:=Int.pow_pos (n:=10) (m:=d) (by decide);omega
  have hn1:n+1≤1000:=by
   rw[Int.pow_succ]at h1;have:=Int.mul_le_mul_of_nonneg_left (show(10:Int)≤10^d*10 by omega) (show 0≤n+1 by omega);omega
  have hdrop:((bytesOf s).take e).drop i=bt s (i:Int)::((bytesOf s).take e).drop (i+1):=by
   rw[kP _ i (by rw[List.length_take];omega)]
   congr 1
   rw[←hb];unfold rd;rw[Int.toNat_natCast];simp only[List.getD_eq_getElem?_getD,List.getElem?_take];rw[if_pos (by omega)]
  rw[hdrop]at hr;simp only[dec]at hr
  have h2:(n*10+(bt s (i:Int)- 48)+1)*10^d≤10000:=by
   rw[Int.pow_succ]at h1;have:=Int.mul_le_mul_of_nonneg_right (show n*10+(bt s (i:Int)- 48)+1≤(n+1)*10 by omega) (show(0:Int)≤10^d by omega);have e1:(n+1)*10*10^d=(n+1)*(10^d*10):=by grind
   omega
  have hi1:(i:Int)<(e:Int):=by omega
  have hi2:(i:Int)<(s.size:Int):=by omega
  have hi3:(0:Int)≤(i:Int):=by omega
  have hw1:wrap64 ((i:Int)+1)=((i+1:Nat):Int):=by rw[fD (by omega) (by omega)];rfl
  have hw2:wrap64 (wrap64 (10*n)+(bt s (i:Int)- 48)%256)=n*10+(bt s (i:Int)- 48):=by
   rw[fD (n:=10*n) (by omega) (by omega),Int.emod_eq_of_lt (by omega) (by omega),fD (by omega) (by omega)];omega
  refine Ev.step (fun k=>?_) (ih (i+1) (n*10+(bt s (i:Int)- 48)) (by omega) (by omega) (by omega) h2 r hr);simp only[aA.l1];rw[if_pos hi1,if_pos hi3,if_pos hi2,hw1,hw2]
theorem Xz (s:ByteArray)(hs:s.size≤1000000)(hn:Num (bytesOf s)):∀(d:Nat) (e:Int) (x3:List Int),e.toNat≤d→e≤s.size→-4≤e→gV 10000 x3→x3.length+e.toNat≤s.size→val 10000 x3+10000^x3.length*dec 0 ((bytesOf s).take e.toNat)=dec 0 (bytesOf s)→
  ∃r,Ev (fun k=>aA.l0 k s x3 e) r∧gV 10000 r∧Trim r∧r.length≤s.size∧val 10000 r=dec 0 (bytesOf s):=by
 intro d
 induction d with
 |zero=>
  intro e x3 hd he he4 hx hl hv;have h0:e.toNat=0:=by omega
  rw[h0]at hv;simp only[List.take_zero,dec,Int.mul_zero,Int.add_zero]at hv;obtain⟨n,h1,ht,hvn,hen⟩:=qH 10000 x3 (by omega);refine⟨x3.take n,Ev.step (f:=fun k=>(aG.f k x3).bind fun t=>some t) (fun k=>?_) (Ev.bind hen (Ev.now _)),fK hx n,ht,by rw[List.length_take];omega,by rw[hvn,hv]⟩;simp only[aA.l0];rw[if_neg (by omega)]
 |succ d ih=>
  intro e x3 hd he he4 hx hl hv
  by_cases hpos:e>0
  case neg=>exact ih e x3 (by omega) he he4 hx hl hv
  have hw:wrap64 (e- 4)=e- 4:=fD (by omega) (by omega);obtain⟨from_,hf⟩:∃f:Nat,f=(e- 4).toNat:=⟨_,rfl⟩;obtain⟨en,hen⟩:∃f:Nat,f=e.toNat:=⟨_,rfl⟩;have hee:(en:Int)=e:=by omega
  have hlen:=bytesOf_length s
  have hcut:dec 0 ((bytesOf s).take en)=dec 0 ((bytesOf s).take from_)*10^(en- from_)+dec 0 (((bytesOf s).take en).drop from_):=by
   have h1:=Qi 0 ((bytesOf s).take en) from_;rw[List.take_take,Nat.min_eq_left (by omega)]at h1;rw[h1,CU,List.length_drop,List.length_take,hlen,Nat.min_eq_left (by omega)]
  have hrange:=jh ((hn.take en).drop from_);rw[List.length_drop,List.length_take,hlen,Nat.min_eq_left (show en≤s.size by omega)]at hrange;have hp4:=yR (en- from_) (by omega)
  have arK:(10:Int)^(en- from_)≤10000:=by
   have:en- from_≤4:=by omega
   have h:=kH (B:=10) (by omega) this;exact h
  have hdig:gV 10000 (x3++[dec 0 (((bytesOf s).take en).drop from_)]):=by
   rw[pg];refine⟨hx,fun y hy=>?_⟩;simp only[List.mem_singleton]at hy;subst hy;omega
  have hval:val 10000 (x3++[dec 0 (((bytesOf s).take en).drop from_)])+10000^(x3++[dec 0 (((bytesOf s).take en).drop from_)]).length*dec 0 ((bytesOf s).take (e- 4).toNat)=dec 0 (bytesOf s):=by
   rw[←hv,rF,List.length_append,List.length_singleton,Int.pow_succ,←hf,←hen,hcut]
   by_cases h4:4≤e
   ·rw[show en- from_=4 by omega,show((10:Int)^4)=10000 from rfl];grind
   ·rw[show from_=0 by omega];simp only[List.take_zero,dec];grind
  obtain⟨r,hr,h⟩:=ih (e- 4) (x3++[dec 0 (((bytesOf s).take en).drop from_)]) (by omega) (by omega) (by omega) hdig (by rw[List.length_append,List.length_singleton];omega) hval
  have hr':Ev (fun k=>aA.l0 k s (x3++[dec 0 (((bytesOf s).take en).drop from_)]) (wrap64 ((en:Int)- 4))) r:=by
   rw[hee,hw];exact hr
  have h1:=XA s x3 (by omega) hs hn en (by omega) (en- from_) from_ 0 (by omega) (by omega) (by omega) (by omega) r hr';have h2:Ev (fun k=>aA.j1 k s x3 e (from_:Int)) r:=Ev.step (fun k=>by simp only[aA.j1];rw[←hee]) h1;refine⟨r,?_,h⟩;refine Ev.step (fun k=>?_) h2;simp only[aA.l0];rw[if_pos hpos,hw]
  by_cases h4:e- 4<0
  ·rw[if_pos h4,show((from_:Nat):Int)=0 by omega]
  ·rw[if_neg h4,show((from_:Nat):Int)=e- 4 by omega]
theorem qA (s:ByteArray)(hs:s.size≤1000000)(hn:Num (bytesOf s)):∃r,Ev (fun k=>aA.f k s) r∧gV 10000 r∧Trim r∧r.length≤s.size∧val 10000 r=dv s:=by
 refine Xz s hs hn s.size (s.size:Int) [] (by omega) (by omega) (by omega) (nJ _) (by simp) ?_;rw[Int.toNat_natCast,List.take_of_length_le (by rw[bytesOf_length];omega)];simp[val]
def ascii:List Int→List Int
 | []=>[]
 |x::xs=>ascii xs++[48+x/1000,48+x/100%10,48+x/10%10,48+x%10]
theorem rM:∀xs,(ascii xs).length=4*xs.length
 | []=>rfl
 |x::xs=>by simp[ascii,rM xs];omega
theorem FW:∀{xs},gV 10000 xs→Num (ascii xs)
 | [],_=>fun c hc=>by simp[ascii]at hc
 |x::xs,h=>by
  obtain⟨h1,h2⟩:=jX.1 h;intro c hc;simp only[ascii,List.mem_append,List.mem_cons,List.not_mem_nil,or_false]at hc;rcases hc with hc|hc|hc|hc|hc
  ·exact FW h2 c hc
  all_goals omega
theorem FV:∀{xs},gV 10000 xs→dec 0 (ascii xs)=val 10000 xs
 | [],_=>rfl
 |x::xs,h=>by
  obtain⟨h1,h2⟩:=jX.1 h;simp only[ascii,val];rw[mG,FV h2];simp only[dec];omega
theorem oZ:∀{xs:List Int} (k:Nat),k≤xs.length→(∀j:Nat,j<k→rd xs (j:Int)=48)→dec 0 xs=dec 0 (xs.drop k)
 |xs,0,_,_=>rfl
 |xs,k+1,hk,h=>by
  rw[oZ k (by omega) (fun j hj=>h j (by omega)),kP xs k (by omega),h k (by omega)];rfl
structure RInv (a b:Int)(L k:Nat)(x q:List Int):Prop where
 xl:x.length=L
 ql:q.length=L
 xd:gV 10000 x
 qd:gV 10000 q
 eq:a=val 10000 x+val 10000 q*b
 top:val 10000 (x.drop k)<b
 low:∀j:Nat,j<k→rd q (j:Int)=0
theorem EE {x y:List Int}(hx:gV 10000 x)(hy:gV 10000 y)(ty:Trim y)(hn:y≠[])(hl:y.length≤x.length):RInv (val 10000 x) (val 10000 y) x.length (x.length- y.length+1) x (List.replicate x.length 0):=by
 refine⟨rfl,by simp,hx,jA (by omega) _,by rw[nM];omega,?_,fun j hj=>?_⟩
 ·have h1:=lY (B:=10000) (by omega) (lX hx (x.length- y.length+1));have h2:=uQ (B:=10000) (by omega) hy ty hn;have hp:=List.length_pos_iff.2 hn;rw[List.length_drop,show x.length- (x.length- y.length+1)=y.length- 1 by omega]at h1;omega
 ·unfold rd;rw[Int.toNat_natCast];simp only[List.getD_eq_getElem?_getD,List.getElem?_replicate];split<;>rfl
theorem ED {a b:Int}{L k:Nat}{x q:List Int}(h:RInv a b L (k+1) x q)(hk:k<L):val 10000 (x.drop k)<10000*b:=by
 have h1:=kP x k (by rw[h.xl];exact hk);have h2:=gG h.xd k (by rw[h.xl,Int.toNat_natCast];exact hk);rw[h1];simp only[val];have:=h.top;omega
theorem Ah {a b f:Int}{L k:Nat}{x q r:List Int}(h:RInv a b L (k+1) x q)(hk:k<L)(f0:0≤f)(f1:f<10000)(hf:val 10000 (x.drop k)<(f+1)*b)(rl:r.length=L)(rdg:gV 10000 r)(rt:r.take k=x.take k)(rv:val 10000 (r.drop k)=val 10000 (x.drop k)- f*b):RInv a b L k r (q.set k f):=by
 refine⟨rl,by rw[List.length_set];exact h.ql,rdg,jF h.qd _ ⟨f0,f1⟩,?_,?_,fun j hj=>?_⟩
 ·rw[tu 10000 q k f (by rw[h.ql];exact hk),h.low k (by omega),h.eq];have h1:=lF 10000 x k (by rw[h.xl];omega);have h2:=lF 10000 r k (by rw[rl];omega);rw[h1,h2,rt,rv];generalize(10000:Int)^k=P;generalize val 10000 (x.take k)=u1;generalize val 10000 (x.drop k)=u2;generalize val 10000 q=u3;grind
 ·rw[rv];have:(f+1)*b=f*b+b:=by grind
  omega
 ·rw[vK _ _ _ _ (by omega)];exact h.low j (by omega)
theorem GU {a b:Int}{L k:Nat}{x q:List Int}(h:RInv a b L (k+1) x q)(hk:k<L)(hf:val 10000 (x.drop k)<(0+1)*b):RInv a b L k x (q.set k 0):=
 Ah h hk (by omega) (by omega) hf h.xl h.xd rfl (by omega)
end Go.Proofs.YthbdjmopolpjmaaGreatDoor.M
namespace Go.Proofs.YthbdjmopolpjmaaGreatDoor.M
open Go.RowKit Go.Proofs.YthbdjmopolpjmaaGreatDoorW.PrintWords Go.Proofs.YthbdjmopolpjmaaGreatDoor.F
def yh (ds:List Int):List Int:=ds.map (fun d=>48+d)
theorem mF (ds:List Int):(yh ds).length=ds.length:=by simp[yh]
theorem JK (ds:List Int)(d:Int):yh (ds++[d])=yh ds++[48+d]:=by simp[yh]
theorem Zl (ds:List Int):dec 0 (yh ds).reverse=val 10 ds:=by
 induction ds with
 |nil=>rfl
 |cons d ds ih=>
  have e:(yh (d::ds)).reverse=(yh ds).reverse++[48+d]:=by simp[yh]
  rw[e,mG,ih]
  show val 10 ds*10+(48+d- 48)=d+10*val 10 ds
  omega
theorem IZ {ds:List Int}(h:gV 10 ds):Num (yh ds).reverse:=fun c hc=>by
 obtain⟨d,hd,rfl⟩:=List.mem_map.1 (List.mem_reverse.1 hc);have:=h d hd;omega
structure Dc (V:Int)(ds:List Int)(n:Int):Prop where
 Qk:gV 10 ds
 sum:val 10 ds+10^ds.length*n=V
 last:n=0→0<V→ds≠[]∧rd ds ((ds.length:Int)- 1)≠0
theorem Dc.start (V:Int)(h:0<V):Dc V [] V:=⟨nJ _,by simp[val],fun h0=>by omega⟩
theorem Dc.step {V:Int}{ds:List Int}{n:Int}(h:Dc V ds n)(hn:0<n):Dc V (ds++[n%10]) (n/10):=by
 refine⟨pg.2 ⟨h.Qk,jX.2 ⟨by omega,nJ _⟩⟩,?_,fun h0 _=>⟨by simp,?_⟩⟩
 ·rw[rF,List.length_append,List.length_singleton,Int.pow_succ,Int.add_assoc,Int.mul_assoc,←Int.mul_add,←h.sum]
  congr 2
  omega
 ·have:rd (ds++[n%10]) (((ds++[n%10]).length:Int)- 1)=n%10:=by
   have e:(((ds++[n%10]).length:Int)- 1).toNat=ds.length:=by rw[List.length_append,List.length_singleton];omega
   unfold rd;rw[e];simp
  rw[this];omega
theorem Dc.canon {V:Int}{ds:List Int}(h:Dc V ds 0)(hV:0<V){s:ByteArray}(hs:bytesOf s=(yh ds).reverse):Canon s∧dv s=V:=by
 obtain⟨hne,hl⟩:=h.last rfl hV;have hp:=List.length_pos_iff.2 hne;have hsz:s.size=ds.length:=by rw[←bytesOf_length,hs,List.length_reverse,mF]
 refine⟨⟨by omega,fun h48=>?_,by rw[hs];exact IZ h.Qk⟩,?_⟩
 ·exfalso
  rw[←gW,hs]at h48
  have e:rd (yh ds).reverse 0=48+rd ds ((ds.length:Int)- 1):=by
   have e2:((ds.length:Int)- 1).toNat=ds.length- 1:=by omega
   unfold rd yh;rw[e2];rw[List.getD_eq_getElem?_getD,List.getD_eq_getElem?_getD,Int.toNat_zero,List.getElem?_reverse (by rw[List.length_map];exact hp),List.length_map,List.getElem?_map,List.getElem?_eq_getElem (show ds.length- 1<ds.length by omega)];rw[Nat.sub_zero,List.getElem?_eq_getElem (show ds.length- 1<ds.length by omega)];rfl
  omega
 ·unfold dv;rw[hs,Zl];have:=h.sum;simpa using this
theorem Dc.len {V:Int}{ds:List Int}{n:Int}(h:Dc V ds n)(hn:0≤n){L:Nat}(hL:V<10^L)(h0:0<n):ds.length<L:=by
 have h1:=h.sum;have h2:=dW (B:=10) (by omega) h.Qk;rcases Nat.lt_or_ge ds.length L with hl|hl
 ·exact hl
 ·have h3:(10:Int)^L≤10^ds.length:=kH (by omega) hl;have h4:(10:Int)^ds.length*1≤10^ds.length*n:=Int.mul_le_mul_of_nonneg_left (by omega) (Int.le_of_lt (Int.pow_pos (by omega)));omega
theorem Py (l:List Int)(hn:l.length≤100000000):∀(m i:Nat) (x:List Int),x.length=l.length→(∀t:Nat,t<l.length→rd x (t:Int)=if t<i∨l.length≤t+i then rd l ((l.length:Int)- 1- t)else rd l (t:Int))→l.length≤2*i+2*m→i≤l.length→
  ∃r,az.l0 (m+1) x (i:Int) ((l.length:Int)- 1- i)=some r∧r=l.reverse:=by
 intro m
 induction m with
 |zero=>
  intro i x hx hp hm hi;refine⟨x,by unfold az.l0;rw[if_neg (by omega)],?_⟩;apply List.ext_getElem?;intro t
  by_cases ht:t<l.length
  ·have h:=hp t ht;rw[if_pos (by omega)]at h;have e:((l.length:Int)- 1- t).toNat=l.length- 1- t:=by omega
   unfold rd at h;rw[e,Int.toNat_natCast]at h;rw[List.getElem?_eq_getElem (by omega),List.getElem?_reverse ht,List.getElem?_eq_getElem (by omega)];simpa[List.getElem?_eq_getElem (show t<x.length by omega),List.getElem?_eq_getElem (show l.length- 1- t<l.length by omega)]using h
  ·rw[List.getElem?_eq_none (by omega),List.getElem?_eq_none (by rw[List.length_reverse];omega)]
 |succ m ih=>
  intro i x hx hp hm hi
  by_cases hlt:(i:Int)<(l.length:Int)- 1- i
  ·have hp2:∀t:Nat,t<l.length→rd ((x.set i (rd x ((l.length:Int)- 1- i))).set (l.length- 1- i) (rd x (i:Int))) (t:Int)=if t<i+1∨l.length≤t+(i+1)then rd l ((l.length:Int)- 1- t)else rd l (t:Int):=by
    intro t ht;have ei:((i:Nat):Int).toNat=i:=Int.toNat_natCast i;have hpi:=hp i (by omega);have hpj:=hp (l.length- 1- i) (by omega);rw[if_neg (by omega)]at hpi hpj;rw[show((l.length- 1- i:Nat):Int)=(l.length:Int)- 1- i by omega]at hpj
    by_cases h1:t=l.length- 1- i
    ·subst h1;rw[if_pos (by omega)]
     have:rd ((x.set i (rd x ((l.length:Int)- 1- i))).set (l.length- 1- i) (rd x (i:Int))) ((l.length- 1- i:Nat):Int)=rd x (i:Int):=by
      simp[rd,hx,ht]
     rw[this,hpi]
     congr 1
     omega
    ·by_cases h2:t=i
     ·subst h2;rw[if_pos (by omega)]
      have:rd ((x.set t (rd x ((l.length:Int)- 1- t))).set (l.length- 1- t) (rd x (t:Int))) (t:Int)=rd x ((l.length:Int)- 1- t):=by
       unfold rd;rw[Int.toNat_natCast,List.getD_eq_getElem?_getD,List.getElem?_set_ne (show l.length- 1- t≠t by omega),List.getElem?_set_self (by omega)];simp
      rw[this,hpj]
     ·have:rd ((x.set i (rd x ((l.length:Int)- 1- i))).set (l.length- 1- i) (rd x (i:Int))) (t:Int)=rd x (t:Int):=by
       simp[rd,List.getElem?_set_ne (show l.length- 1- i≠t by omega),List.getElem?_set_ne (show i≠t by omega)]
      rw[this,hp t ht]
      by_cases h3:t<i∨l.length≤t+i
      ·rw[if_pos h3,if_pos (by omega)]
      ·rw[if_neg h3,if_neg (by omega)]
   obtain⟨r,hr,he⟩:=ih (i+1) ((x.set i (rd x ((l.length:Int)- 1- i))).set (l.length- 1- i) (rd x (i:Int))) (by simp[hx]) hp2 (by omega) (by omega);refine⟨r,?_,he⟩;have e:((l.length:Int)- 1- i).toNat=l.length- 1- i:=by omega
   unfold az.l0;rw[if_pos hlt,if_pos (by omega),if_pos (by omega),if_pos (by omega),if_pos (by omega),fD (by omega) (by omega),fD (by omega) (by omega),e,Int.toNat_natCast,←hr]
   congr 1
   omega
  ·obtain⟨r,hr,he⟩:∃r,az.l0 (0+1) x (i:Int) ((l.length:Int)- 1- i)=some r∧r=l.reverse:=by
    refine⟨x,by unfold az.l0;rw[if_neg hlt],?_⟩;apply List.ext_getElem?;intro t
    by_cases ht:t<l.length
    ·have h:=hp t ht;have e:((l.length:Int)- 1- t).toNat=l.length- 1- t:=by omega
     have h':rd x (t:Int)=rd l ((l.length:Int)- 1- t):=by
      by_cases h3:t<i∨l.length≤t+i
      ·rw[if_pos h3]at h;exact h
      ·rw[if_neg h3]at h;rw[h]
       congr 1
       omega
     unfold rd at h';rw[e,Int.toNat_natCast]at h';rw[List.getElem?_eq_getElem (by omega),List.getElem?_reverse ht,List.getElem?_eq_getElem (by omega)];simpa[List.getElem?_eq_getElem (show t<x.length by omega),List.getElem?_eq_getElem (show l.length- 1- t<l.length by omega)]using h'
    ·rw[List.getElem?_eq_none (by omega),List.getElem?_eq_none (by rw[List.length_reverse];omega)]
   refine⟨r,?_,he⟩;rw[←hr];unfold az.l0;rw[if_neg hlt,if_neg hlt]
theorem EC (l:List Int)(hn:l.length≤100000000):∃k,az.f k l=some l.reverse:=by
 obtain⟨r,hr,rfl⟩:=Py l hn l.length 0 l rfl (fun t ht=>by rw[if_neg (by omega)]) (by omega) (by omega);refine⟨l.length+1,?_⟩;unfold az.f;rw[fD (by omega) (by omega)];simpa using hr
end Go.Proofs.YthbdjmopolpjmaaGreatDoor.M
namespace Go.Proofs.YthbdjmopolpjmaaGreatDoor.C
open Go.RowKit Go.Proofs.YthbdjmopolpjmaaGreatDoorW.PrintWords Go.Proofs.YthbdjmopolpjmaaGreatDoorW.PrintLast Go.Proofs.YthbdjmopolpjmaaGreatDoorW.PrintMore Go.Proofs.YthbdjmopolpjmaaGreatDoor.F Go.Proofs.YthbdjmopolpjmaaGreatDoor.M
attribute [local go_sem] max2_int min2_int max_two min_two max_three min_three max_four min_four
def Rb (W:World)(base:Nat)(v:Value)(xs:List Int):Prop:=Kd.R (Kd.int .u8) 5 W base (fun k=>base≤k) v xs
theorem OA (m:Nat)(hm:m≤1000000):∀W,(Instr.makeSlice 50 (.int .i64 0) (.int .i64 (m:Int))).run Tryz.prog W= .ok (.slice (some ⟨W.heap.size,0,none⟩) 0 m) (W.alloc (.cells (madeCells #[.int .u8 0] m) 5)):=by
 intro W;obtain⟨i,hi,hz,hsz,hb⟩:=info_parts info5;have h:=run_makeSlice (P:=Tryz.prog) W 50 5 i (.int .u8 0) Tryz.underlying50 hi hz .i64 .i64 0 (m:Int) (Int.le_refl _) (by omega) (by rw[hsz];omega) (by rw[hb];omega) (by omega);rw[h,hsz];simp[Value.cells]
theorem aam (W:World)(base m:Nat)(hb:base≤W.heap.size)(hm:m≤1000000):Rb (W.alloc (.cells (madeCells #[.int .u8 0] m) 5)) base (.slice (some ⟨W.heap.size,0,none⟩) 0 m) []:=by
 have h:=World.ownsRow_made (base:=base) (e:=5) (size:=1) W (madeCells #[.int .u8 0] m) m hb (by simp only[maxLen];omega) (by simp[size_madeCells]);exact Kd.iR (by simpa[encs]using h) (fun k hk=>by simp[Value.ownBlock]at hk;omega)
theorem CG {w0 W:World}(base g:Nat)(v:Value)(xs:List Int)(y1 y2 y3 y4:Int)(hg:W.heap[g]?=some (.cells #[.int .u8 y1,.int .u8 y2,.int .u8 y3,.int .u8 y4] 5 (0,0)))(HO:Rb W base v xs)(HB:Below base w0 W)(hbase:base≤W.heap.size)(hl:xs.length≤400000):
  ∃v1 w1,(Builtin.append_ #[50,50] 50 #[v,.slice (some ⟨g,0,none⟩) 4 4]).run Tryz.prog W= .ok v1 w1∧Rb w1 base v1 (xs++[y1,y2,y3,y4])∧Below base w0 w1:=by
 have hinfo:=info5;obtain⟨i0,hi,hzz⟩:=Option.map_eq_some_iff.1 hinfo;simp only[Prod.mk.injEq]at hzz;obtain⟨hz0,hz1,hz2⟩:=hzz;have ho:=Kd.jd HO
 obtain⟨v1,w1,hr,hown,hgr,_,hat⟩:=run_append_own_at (P:=Tryz.prog) W base 50 50 5 i0 (.int .u8 0) 1 1 Tryz.underlying50 hi hz0 hz1 hz2 rfl (by decide) v xs.length (encs (Value.int .u8) xs) ho ⟨g,0,none⟩ 4 4 [.int .u8 y1,.int .u8 y2,.int .u8 y3,.int .u8 y4] rfl
  (by simpa using World.news_of_block (cs:= #[.int .u8 y1,.int .u8 y2,.int .u8 y3,.int .u8 y4]) (t:=5) (fr:=(0,0)) hg) (by simp[Value.oneCell']) (by simp only[maxLen];omega) (by omega) hbase
 refine⟨v1,w1,hr,Kd.iR ?_ (fun k hk=>own_base hown k hk),HB.grown hgr hbase (own_base ho)⟩;simpa[encs]using hown
theorem jo (xs:List Int)(h:∀x∈xs,0≤x∧x<256):bytesOf (strOfNums xs)=xs:=by
 have e:(xs.map fun x=>UInt8.ofNat x.toNat).map (fun b=>(b.toNat:Int))=xs:=by
  rw[List.map_map]
  have:∀x∈xs,((fun b:UInt8=>(b.toNat:Int))∘fun x:Int=>UInt8.ofNat x.toNat) x=x:=fun x hx=>by
   have:=h x hx;simp only[Function.comp,UInt8.toNat_ofNat'];omega
  exact(List.map_congr_left this).trans (List.map_id _)
 have h1:strOfNums ((xs.map fun x=>UInt8.ofNat x.toNat).map fun b=>(b.toNat:Int))=⟨(xs.map fun x=>UInt8.ofNat x.toNat).toArray⟩:=by
  unfold strOfNums
  congr 2
  rw[List.map_map];have h2:∀b∈(xs.map fun x=>UInt8.ofNat x.toNat),((fun i:Int=>UInt8.ofNat i.toNat)∘fun b:UInt8=>(b.toNat:Int)) b=b:=fun b _=>by simp
  exact(List.map_congr_left h2).trans (List.map_id _)
 rw[e]at h1;rw[h1];exact e
theorem vT (A:Option Addr)(c:Nat)(xs:List Int)(w:World)(hC:Kd.C (Kd.int .i64) w A xs.length xs)(hc:xs.length≤c)(hd:gV 10000 xs)(ht:Trim xs)(hl:xs.length≤100000):
  Calls Tryz.prog 177 #[.slice A xs.length c] w fun e w'=>∃t,e= .returned (.string t)∧Canon t∧dv t=val 10000 xs∧Below w.heap.size w w':=by
 have HC:=zM hC;have HD:=zM (zA hd (zA ht (zA hl hc)))
 by_cases hn:xs=[]
 ·subst hn;clear hC hc hd ht hl;have h0:(((0:Nat):Int)==0)=true:=rfl;go_enter Tryz.func177,Tryz.ntmps177;go_wp2_with fail;go_ret;refine⟨⟨#[48]⟩,rfl,⟨by decide,fun _=>by decide,fun x hx=>?_⟩,rfl,Below.refl _ _⟩;simp[bytesOf]at hx;omega
 ·have hp:=List.length_pos_iff.2 hn;have hn0:((xs.length:Int)==0)=false:=beq_eq_false_iff_ne.mpr (by omega);have hn1:(xs.length==0)=false:=beq_eq_false_iff_ne.mpr (by omega);obtain⟨m,hm⟩:∃m,4*xs.length=m:=⟨_,rfl⟩;have hw4:wrap64 (4*(xs.length:Int))=(m:Int):=by rw[fD (by omega) (by omega)];omega
  have hw1:wrap64 ((xs.length:Int)- 1)=(xs.length:Int)- 1:=fD (by omega) (by omega);have hmk:=OA m (by omega);have HR0:=zM (zA (aam w w.heap.size m (Nat.le_refl _) (by omega)) (ag (Below.refl w.heap.size w) (.cells (madeCells #[.int .u8 0] m) 5)));have HN:=zM (zA hn (zA hp hm));clear hC hc hd ht hl hp hn hm;go_enter Tryz.func177,Tryz.ntmps177;go_upto_region 3 with(fail);go_wp2_with fail;go_loopg [3,4] xs.length (fun kq v3 v4 W=>∃(i:Int),v4= .int .i64 i∧Aside0 (-1≤i∧i<xs.length∧(i+1).toNat≤kq∧Rb W w.heap.size v3 (ascii (xs.drop (i+1).toNat))∧Below w.heap.size w W))
  case atStart=>exact⟨_,rfl,⟨by have:=HN.out.2.1;omega,by omega,by omega,by rw[List.drop_of_length_le (by omega)];exact HR0.out.1,HR0.out.2⟩⟩
  case round=>
   clear HR0;obtain⟨i,rfl,HR⟩:=hrel
   by_cases hi:0≤i
   ·have hi0:=zT hi;have hi1:=eq_true hi;have hi2:=eq_true HR.out.2.1;obtain⟨ad,e,hx⟩:=Kd.dM (Kd.ji HC.out HR.out.2.2.2.2) i hi HR.out.2.1;subst e;have hdg:=gG HD.out.1 i (by have:=HR.out.2.1;omega);obtain⟨x,hxx⟩:∃x,rd xs i=x:=⟨_,rfl⟩;rw[hxx]at hx hdg;have HX:=zM (zA hxx (zA hdg hi));clear hxx hdg hi;go_wp2_with fail;have hx0:=HX.out.2.1;have e0:IntKind.i64.wrap (x.tdiv 1000)=x/1000:=by rw[Int.tdiv_eq_ediv_of_nonneg hx0.1,dL,fD (by omega) (by omega)]
    have e0b:IntKind.i64.wrap (x.tdiv 100)=x/100:=by rw[Int.tdiv_eq_ediv_of_nonneg hx0.1,dL,fD (by omega) (by omega)]
    have e0c:IntKind.i64.wrap (x.tdiv 10)=x/10:=by rw[Int.tdiv_eq_ediv_of_nonneg hx0.1,dL,fD (by omega) (by omega)]
    have e1:IntKind.u8.wrap (IntKind.i64.wrap (48+IntKind.i64.wrap (x.tdiv 1000)))=48+x/1000:=by
     rw[e0,dL,fD (by omega) (by omega),IntKind.wrap_u8];omega
    have e2:IntKind.u8.wrap (IntKind.i64.wrap (48+(IntKind.i64.wrap (x.tdiv 100)).tmod 10))=48+x/100%10:=by
     rw[e0b,Int.tmod_eq_emod_of_nonneg (by omega),dL,fD (by omega) (by omega),IntKind.wrap_u8];omega
    have e3:IntKind.u8.wrap (IntKind.i64.wrap (48+(IntKind.i64.wrap (x.tdiv 10)).tmod 10))=48+x/10%10:=by
     rw[e0c,Int.tmod_eq_emod_of_nonneg (by omega),dL,fD (by omega) (by omega),IntKind.wrap_u8];omega
    have e4:IntKind.u8.wrap (IntKind.i64.wrap (48+x.tmod 10))=48+x%10:=by
     rw[Int.tmod_eq_emod_of_nonneg hx0.1,dL,fD (by omega) (by omega),IntKind.wrap_u8];omega
    have HEQ:=zM (zA e1 (zA e2 (zA e3 e4)));have hlen:(ascii (xs.drop (i+1).toNat)).length≤400000:=by rw[rM,List.length_drop];have:=HD.out.2.2.1;omega
    have HL:=zM hlen;clear hx0 e0 e0b e0c e1 e2 e3 e4 hlen
    have happ:∀y1 y2 y3 y4:Int,∃v1 w1,(Builtin.append_ #[50,50] 50 #[u3,.slice (some ⟨wr.heap.size,0,none⟩) 4 4]).run Tryz.prog (wr.alloc (Obj.cells #[.int .u8 y1,.int .u8 y2,.int .u8 y3,.int .u8 y4] 5)).drew= .ok v1 w1∧Rb w1 w.heap.size v1 (ascii (xs.drop (i+1).toNat)++[y1,y2,y3,y4])∧Below w.heap.size w w1:=by
     intro y1 y2 y3 y4;have hB2:Below wr.heap.size wr (wr.alloc (Obj.cells #[.int .u8 y1,.int .u8 y2,.int .u8 y3,.int .u8 y4] 5)).drew:=dB (ag (Below.refl _ _) _);have hB3:=ah HR.out.2.2.2.2 HR.out.2.2.2.2.size hB2;exact CG w.heap.size wr.heap.size u3 _ y1 y2 y3 y4 (by exact bZ wr _) (Kd.dK HR.out.2.2.2.1 hB2) hB3 hB3.size HL.out
    obtain⟨V1,hV1⟩:=Classical.axiomOfChoice (fun(y:Int×Int×Int×Int)=>happ y.1 y.2.1 y.2.2.1 y.2.2.2);obtain⟨W1,hW1⟩:=Classical.axiomOfChoice hV1;have hrun:∀y1 y2 y3 y4:Int,(Builtin.append_ #[50,50] 50 #[u3,.slice (some ⟨wr.heap.size,0,none⟩) 4 4]).run Tryz.prog (wr.alloc (Obj.cells #[.int .u8 y1,.int .u8 y2,.int .u8 y3,.int .u8 y4] 5)).drew= .ok (V1 (y1,y2,y3,y4)) (W1 (y1,y2,y3,y4)):=fun y1 y2 y3 y4=>(hW1 (y1,y2,y3,y4)).1
    have HW:=zM (fun y1 y2 y3 y4=>(hW1 (y1,y2,y3,y4)).2);clear happ hV1 hW1;simp[go_sem]at hrun;go_region;have hw8:wrap64 (48+wrap64 (x.tdiv 1000))%256=48+x/1000:=by rw[←HEQ.out.1,IntKind.wrap_u8,dL,dL]
    have hw9:wrap64 (48+(wrap64 (x.tdiv 100)).tmod 10)%256=48+x/100%10:=by rw[←HEQ.out.2.1,IntKind.wrap_u8,dL,dL]
    have ahm:wrap64 (48+(wrap64 (x.tdiv 10)).tmod 10)%256=48+x/10%10:=by rw[←HEQ.out.2.2.1,IntKind.wrap_u8,dL,dL]
    have ahn:wrap64 (48+x.tmod 10)%256=48+x%10:=by rw[←HEQ.out.2.2.2,IntKind.wrap_u8,dL]
    rw[hw8,hw9,ahm,ahn];have hf:=HW.out (48+x/1000) (48+x/100%10) (48+x/10%10) (48+x%10);simp only at hf;generalize V1 (48+x/1000,48+x/100%10,48+x/10%10,48+x%10)=v1 at hf⊢;generalize W1 (48+x/1000,48+x/100%10,48+x/10%10,48+x%10)=w1 at hf⊢;have HF:=zM hf;clear hf hw8 hw9 ahm ahn hrun HW;have hwi:wrap64 (i- 1)=i- 1:=fD (by have:=HX.out.2.2;omega) (by have:=HR.out.2.1;have:=HD.out.2.2.1;omega);obtain⟨k1,rfl⟩:∃k1,gk=k1+1:=⟨gk- 1,by have:=HR.out.2.2.1;have:=HX.out.2.2;omega⟩;go_wp2_with fail;go_roundg k1
    case measure=>omega
    case rel=>
     have hi:=HX.out.2.2;have hix:=HR.out.2.1;refine⟨i- 1,by rw[hwi],⟨by omega,by omega,by have:=HR.out.2.2.1;omega,?_,HF.out.2⟩⟩;have h1:(i- 1+1).toNat=i.toNat:=by omega
     have h2:(i+1).toNat=i.toNat+1:=by omega
     have h3:=kP xs i.toNat (by omega);rw[show((i.toNat:Nat):Int)=i by omega,HX.out.1]at h3;rw[h1,h3];have h4:=HF.out.1;rw[h2]at h4;exact h4
   ·have hi0:=zF hi;have HX:=zM (show i= -1 by have:=HR.out.1;omega);clear hi;have hB:=HR.out.2.2.2.1;rw[HX.out,show((-1:Int)+1).toNat=0 from rfl,List.drop_zero]at hB;obtain⟨l,hl⟩:∃l,ascii xs=l:=⟨_,rfl⟩;rw[hl]at hB;have hdl:dec 0 l=val 10000 xs:=by rw[←hl];exact FV HD.out.1
    have hnl:Num l:=by rw[←hl];exact FW HD.out.1
    have hll:l.length≤400000:=by rw[←hl,rM];have:=HD.out.2.2.1;omega
    have hvp:=vV (B:=10000) (by omega) HD.out.1 HD.out.2.1 HN.out.1
    obtain⟨j0,hj0,hjn⟩:∃j0:Nat,j0<l.length∧rd l (j0:Int)≠48:=by
     refine Classical.byContradiction fun hno=>?_
     have h:=oZ (xs:=l) l.length (Nat.le_refl _) (fun j hj=>Classical.byContradiction fun h=>hno ⟨j,hj,h⟩);rw[List.drop_length]at h;simp only[dec]at h;omega
    obtain⟨A2,c2,rfl,hc2,hC2⟩:=Kd.jE hB;have HL:=zM (zA hdl (zA hnl (zA hll (zA hj0 (zA hjn (zA hc2 (zA hC2 hvp)))))));clear hdl hnl hll hj0 hjn hc2 hC2 hB hl hvp;go_wp2_with fail;go_loopg [5] l.length (fun kq v5 W=>∃k:Int,v5= .int .i64 k∧W=wr∧Aside0 (0≤k∧k≤j0∧(∀j:Nat,(j:Int)<k→rd l (j:Int)=48)∧l.length≤kq+k))
    case atStart=>exact⟨0,rfl,rfl,⟨by omega,by omega,fun j hj=>by omega,by omega⟩⟩
    case round=>
     obtain⟨k,rfl,rfl,HK⟩:=hrel;have hkl:k<(l.length:Int):=by have:=HK.out.2.1;have:=HL.out.2.2.2.1;omega
     obtain⟨ad,e,hx⟩:=Kd.dM HL.out.2.2.2.2.2.2.1 k HK.out.1 hkl;subst e;have hk1:=eq_true HK.out.1;have hk2:=eq_true hkl;have HKL:=zM hkl;clear hkl
     by_cases h48:rd l k=48
     ·have hb:((rd l k)==48)=true:=beq_iff_eq.mpr h48
      have hlt:k<j0:=by
       rcases Int.lt_or_eq_of_le HK.out.2.1 with h|h
       ·exact h
       ·rw[h]at h48;exact absurd h48 HL.out.2.2.2.2.1
      have hwk:wrap64 (k+1)=k+1:=fD (by have:=HK.out.1;omega) (by have:=HKL.out;have:=HL.out.2.2.1;omega);obtain⟨k1,rfl⟩:∃k1,gk=k1+1:=⟨gk- 1,by have:=HK.out.2.2.2;have:=HKL.out;omega⟩;have H48:=zM (zA h48 hlt);clear h48 hlt;go_wp2_with fail;go_roundg k1
      case measure=>omega
      case rel=>
       have:=H48.out.2;have h0:=HK.out.1;refine⟨k+1,by rw[hwk],rfl,⟨by omega,by omega,fun j hj=>?_,by have:=HK.out.2.2.2;omega⟩⟩
       by_cases hjk:(j:Int)=k
       ·rw[hjk];exact H48.out.1
       ·exact HK.out.2.2.1 j (by omega)
     ·have hb:((rd l k)==48)=false:=beq_eq_false_iff_ne.mpr h48;have H48:=zM h48;clear h48;obtain⟨i0,aha,_,hsz,_⟩:=info_parts info5;have hcut:=JX (P:=Tryz.prog) 50 5 .i64 Tryz.underlying50 aha 1 hsz (some ad) l.length c2 k HK.out.1 (by have:=HKL.out;omega);have hCd:=Kd.TU (c:=c2) HL.out.2.2.2.2.2.2.1 (m:=k.toNat) (by have:=HKL.out;omega) HL.out.2.2.2.2.2.1;obtain⟨A3,hA3⟩:∃A3,(if c2=k.toNat then some ad else(some ad).map (·.add (k.toNat *1)))=A3:=⟨_,rfl⟩;obtain⟨n3,hn3⟩:∃n3,l.length- k.toNat=n3:=⟨_,rfl⟩;obtain⟨c3,hc3⟩:∃c3,c2- k.toNat=c3:=⟨_,rfl⟩;rw[hA3,hn3,hc3]at hcut;have agY:(Kd.int .u8).C wr A3 n3 (l.drop k.toNat):=by rw[←hA3,←hn3,←List.length_drop];exact hCd
      have hcv:=Kd.yj (P:=Tryz.prog) (c:=c3) (src:=50) (dst:=9) (e:=5) Tryz.underlying50 Tryz.underlying5 Tryz.underlying9 agY;obtain⟨tt,htt⟩:∃tt,strOfNums (l.drop k.toNat)=tt:=⟨_,rfl⟩;rw[htt]at hcv;have HT:=zM htt;clear hA3 hn3 hc3 hCd agY htt aha hsz;go_wp2_with fail;go_ret;have hk0:=HK.out.1;have hkl:=HKL.out
      have hbt:bytesOf tt=l.drop k.toNat:=by
       rw[←HT.out];exact jo _ (fun x hx=>by have:=HL.out.2.1 x (List.mem_of_mem_drop hx);omega)
      have hsz:tt.size=l.length- k.toNat:=by rw[←bytesOf_length,hbt,List.length_drop]
      refine⟨tt,rfl,⟨by omega,fun h=>?_,?_⟩,?_,HR.out.2.2.2.2⟩
      ·have h1:=gW tt 0;rw[hbt]at h1;have h2:=QG l k.toNat 0;rw[show((0:Nat):Int)=0 from rfl,Nat.add_zero,show((k.toNat:Nat):Int)=k by omega]at h2;exact absurd (h2.symm.trans (h1.trans h)) H48.out
      ·rw[hbt];exact HL.out.2.1.drop _
      ·unfold dv;rw[hbt,←HL.out.1];exact(oZ k.toNat (by omega) (fun j hj=>HK.out.2.2.1 j (by omega))).symm
end Go.Proofs.YthbdjmopolpjmaaGreatDoor.C
