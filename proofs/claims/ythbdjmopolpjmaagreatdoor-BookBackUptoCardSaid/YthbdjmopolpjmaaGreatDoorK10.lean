/- Part 10 of the proof. -/
import Derived.Shelf.Slices.Clone
import Derived.Shelf.Small.Bits
import Derived.Shelf.Strconv.Atoi
import Derived.Shelf.Strconv.Itoa3
import Derived.Shelf.Strings.Cut
import Derived.Shelf.Strings.OnBuilder
import Derived.Shelf.Strings.Prefix
import Derived.Shelf.Strings.Runes
import Derived.Shelf.Strings.Split
import Derived.Shelf.Strings.Trim
import Derived.Test.YthbdjmopolpjmaaGreatDoorK09
set_option linter.unusedVariables false
set_option linter.unusedSimpArgs false
set_option maxHeartbeats 8000000
set_option maxRecDepth 100000
namespace Go.Proofs.YthbdjmopolpjmaaGreatDoor.C
open Go.RowKit Go.Proofs.YthbdjmopolpjmaaGreatDoorW.PrintWords Go.Proofs.YthbdjmopolpjmaaGreatDoorW.PrintLast Go.Proofs.YthbdjmopolpjmaaGreatDoorW.PrintMore Go.Proofs.YthbdjmopolpjmaaGreatDoor.F Go.Proofs.YthbdjmopolpjmaaGreatDoor.M
attribute [local go_sem] max2_int min2_int max_two min_two max_three min_three max_four min_four
def Rg (W:World)(base g n c:Nat)(xs:List Int):Prop:=xs.length=n∧base≤g∧g<W.heap.size∧Kd.R (Kd.int .i64) 3 W base (fun k=>k=g) (.slice (some ⟨g,0,none⟩) n c) xs
theorem Rg.of {W:World}{base b:Nat}{v:Value}{xs:List Int}(h:Rn W b v xs)(hb:base≤b)(hn:xs≠[]):∃g c,v= .slice (some ⟨g,0,none⟩) xs.length c∧b≤g∧Rg W base g xs.length c xs:=by
 obtain⟨g,c,rfl,h1,h2,_⟩:=Kd.jf h (List.length_pos_iff.2 hn);exact⟨g,c,rfl,h1,rfl,by omega,h2,Kd.gI (Kd.iV (Kd.uU rfl h) hb) (fun k hk=>by simpa[Value.ownBlock]using hk)⟩
theorem Rg.keep {W W1:World}{base g n c:Nat}{xs:List Int}(h:Rg W base g n c xs)(hs:W.heap.size≤W1.heap.size)(hg:W1.heap[g]?=W.heap[g]?):Rg W1 base g n c xs:=
 ⟨h.1,h.2.1,Nat.lt_of_lt_of_le h.2.2.1 hs,Kd.ui h.2.2.2 (fun k hk _=>by subst hk;exact hg)⟩
theorem Rg.below {W W1:World}{base g n c:Nat}{xs:List Int}(h:Rg W base g n c xs)(hb:Below W.heap.size W W1):Rg W1 base g n c xs:=h.keep hb.size (hb.block g h.2.2.1)
theorem Rg.C {W:World}{base g n c:Nat}{xs:List Int}(h:Rg W base g n c xs):(Kd.int .i64).C W (some ⟨g,0,none⟩) xs.length xs∧xs.length≤c:=by
 have h1:=Kd.dA h.2.2.2;have hl:=h.1;exact⟨h1.2.2,by omega⟩
theorem Rg.cell {W:World}{base g n c:Nat}{xs:List Int}(h:Rg W base g n c xs)(i:Int)(h0:0≤i)(h1:i<n):W.cell? ⟨g,i.toNat,none⟩=some (.int .i64 (rd xs i))∧W.frozen? ⟨g,i.toNat,none⟩=false:=Kd.fE (0:Int) h.2.2.2 i h0 h1
theorem Rg.put {W:World}{base g n c:Nat}{xs:List Int}(h:Rg W base g n c xs)(i v:Int):Rg (W.setCell ⟨g,i.toNat,none⟩ (.int .i64 v)) base g n c (xs.set i.toNat v):=
 ⟨by rw[List.length_set];exact h.1,h.2.1,by simpa using h.2.2.1,Kd.Ig h.2.2.2 i v⟩
theorem Rg.other {W:World}{base g n c h':Nat}{xs:List Int}(h:Rg W base g n c xs)(hne:g≠h')(i:Nat)(v:Value):Rg (W.setCell ⟨h',i,none⟩ v) base g n c xs:=
 h.keep (by simp) (Below.heap_setCell W ⟨h',i,none⟩ v g hne)
theorem QH (W:World)(base n:Nat)(hn:0<n)(hb:base≤W.heap.size)(hm:n≤9223372036854775807):Rg (W.alloc (.cells (madeCells #[.int .i64 0] n) 3)) base W.heap.size n n (List.replicate n 0):=by
 refine⟨by simp,hb,by simp,Kd.iR ?_ (fun k hk=>by simpa[Value.ownBlock]using hk.symm)⟩;have h:=Em W base 3 .i64 n hb hm;rw[List.length_replicate];exact h
theorem Gs (n m:Nat)(w:World)(base gx cx gy cy up:Nat)(x y:List Int)(hx:Rg w base gx n cx x)(hy:Rg w base gy m cy y)(dx:gV 10000 x)(dy:gV 10000 y)(hup:up≤n)(hn:n≤100000)(hm:m≤100000)(hv:val 10000 (x.drop up)<10000*val 10000 y):
  Calls Tryz.prog 175 #[.slice (some ⟨gx,0,none⟩) n cx,.slice (some ⟨gy,0,none⟩) m cy,.int .i64 (up:Int)] w fun e w'=>∃r,e= .returned (.int .i64 r)∧0≤r∧r<10000∧r*val 10000 y≤val 10000 (x.drop up)∧val 10000 (x.drop up)<(r+1)*val 10000 y∧Below w.heap.size w w':=by
 obtain⟨zL,zN⟩:=hx.C;obtain⟨cy1,cy2⟩:=hy.C;obtain rfl:=hx.1;obtain rfl:=hy.1;obtain⟨r,he,h1,h2,h3,h4⟩:=Oc dx dy hup hn hm hv;obtain⟨k,hk⟩:=he.rounds;exact(aY.calls k _ cx x _ cy y up r w zL zN cy1 cy2 hk).mono fun e w' ⟨he,hb⟩=>⟨r,he,h1,h2,h3,h4,hb⟩
theorem G5 (n m:Nat)(w0 w:World)(gx cx gy cy up:Nat)(q:Int)(x y:List Int)(hB:Below w0.heap.size w0 w)(hx:Rg w w0.heap.size gx n cx x)(hy:Rg w w0.heap.size gy m cy y)(hne:gy≠gx)(dx:gV 10000 x)(dy:gV 10000 y)(q0:0≤q)(q1:q<10000)(hup:up+m≤n)(hn:n≤100000)(hv:q*val 10000 y≤val 10000 (x.drop up)):
  Calls Tryz.prog 176 #[.slice (some ⟨gx,0,none⟩) n cx,.slice (some ⟨gy,0,none⟩) m cy,.int .i64 (up:Int),.int .i64 q] w fun e w'=>∃r,e= .returned (.tuple #[])∧Rg w' w0.heap.size gx n cx r∧gV 10000 r∧r.take up=x.take up∧val 10000 (r.drop up)=val 10000 (x.drop up)- q*val 10000 y∧Below w0.heap.size w0 w'∧w.heap.size≤w'.heap.size∧∀i,i<w.heap.size→i≠gx→w'.heap[i]?=w.heap[i]?:=by
 obtain⟨cy1,cy2⟩:=hy.C;obtain rfl:=hy.1;obtain⟨r,he,h1,h2,h3,h4⟩:=PM (x:=x) (y:=y) (q:=q) (up:=up) dx dy q0 q1 (by have:=hx.1;omega) (by have:=hx.1;omega) hv;obtain⟨k,hk⟩:=he.rounds;refine(aH.calls k (fun k=>k=gx) _ x _ cy y up q r w0 w hB hx.2.2.2 (fun W hW=>?_) cy2 hk).mono fun e w' ⟨he,hr,hb,hkept⟩=>⟨r,he,⟨by rw[h1];exact hx.1,hx.2.1,Nat.lt_of_lt_of_le hx.2.2.1 hkept.1,?_⟩,h2,h3,h4,hb,hkept.1,hkept.2⟩
 ·exact(hy.keep hW.1 (hW.2 gy hy.2.2.1 hne)).C.1
 ·exact Kd.gI (Kd.uU rfl hr) (fun k hk=>by simpa[Value.ownBlock]using hk)
theorem vO (n:Nat)(A:Option Addr)(c:Nat)(xs:List Int)(w:World)(hl:xs.length=n)(hC:(Kd.int .i64).C w A xs.length xs)(hc:xs.length≤c)(hd:gV 10000 xs)(hn:n≤100000):
  Calls Tryz.prog 178 #[.slice A n c] w fun e w'=>∃r,e= .returned (.slice A r.length c)∧gV 10000 r∧Trim r∧val 10000 r=val 10000 xs∧r.length≤100000∧r.length≤c∧(Kd.int .i64).C w' A r.length r∧Below w.heap.size w w':=by
 subst hl;obtain⟨m,hm,ht,hv,he⟩:=qH 10000 xs (by omega);obtain⟨k,hk⟩:=he.rounds;have hlen:(xs.take m).length=m:=by rw[List.length_take];omega
 exact(EF k A c xs _ w hC hc hk).mono fun e w' ⟨he,hb⟩=>⟨_,he,fK hd m,ht,hv,by omega,by omega,Kd.Dl (Kd.ji hC hb) hm,hb⟩
theorem J3 (a b:ByteArray)(w:World)(ha:Canon a)(hb:Canon b)(hz:dv b≠0)(la:a.size≤1000)(lb:b.size≤1000):
  Calls Tryz.prog 128 #[.string a,.string b] w fun e w'=>∃q r,e= .returned (.tuple #[.string q,.string r])∧Canon r∧(∃k,dv a=k*dv b+dv r)∧0≤dv r∧dv r<dv b∧Below w.heap.size w w':=by
 obtain⟨x,hx,xd,xt,xl,xv⟩:=qA a (by omega) ha.2.2;obtain⟨y,hy,yd,yt,yl,yv⟩:=qA b (by omega) hb.2.2;obtain⟨k1,hk1⟩:=hx.rounds;obtain⟨k2,hk2⟩:=hy.rounds;obtain⟨k3,hk3⟩:=(uN xd yd xt yt (by omega) (by omega)).rounds;have hyn:y≠[]:=by intro e;rw[e]at yv;exact hz yv.symm
 have HK:=zM (zA hk1 (zA hk2 hk3));have HD:=zM (zA xd (zA yd (zA xt (zA yt (zA hyn (zA (show x.length≤1000 by omega) (show y.length≤1000 by omega)))))));have HV:=zM (zA xv (zA yv ha));clear hx hy xd yd xt yt xl yl xv yv hk1 hk2 hk3 hyn ha hb hz la lb;go_enter Tryz.func128,Tryz.ntmps128;go_wp2_with fail;refine(sO k1 a x _ HK.out.1).mono ?_;rintro e w1 ⟨A1,c1,rfl,h1,h2⟩;have H1:=zM (zA h1 h2);clear h1 h2;go_wp2_with fail;refine(sO k2 b y _ HK.out.2.1).mono ?_;rintro e w2 ⟨A2,c2,rfl,h1,h2⟩;have H2:=zM (zA h1 (zA (show Rn w2 w.heap.size (.slice A1 x.length c1) x from Kd.dK H1.out.1 h2) (zA (ah H1.out.2 H1.out.2.size h2) h2.size)));clear h1 h2;go_wp2_with fail;refine(aZ.calls k3 A1 c1 x A2 c2 y _ _ (Kd.dA H2.out.2.1).2.2 (Kd.dA H2.out.2.1).2.1 (Kd.dA H2.out.1).2.2 (Kd.dA H2.out.1).2.1 HK.out.2.2).mono ?_;rintro e w3 ⟨rfl,h1⟩;have hb3:=h1.below;have H3:=zM (zA (show Rn w3 w1.heap.size (.slice A2 y.length c2) y from Kd.dK H2.out.1 hb3) (zA (show Rn w3 w.heap.size (.slice A1 x.length c1) x from Kd.dK H2.out.2.1 hb3) (ah H2.out.2.2.1 H2.out.2.2.1.size hb3)));clear h1 hb3
 by_cases hlt:val 10000 x<val 10000 y
 ·rw[decide_eq_true hlt];have HL:=zM hlt;clear hlt;go_wp2_with fail;go_ret2;refine⟨_,a,rfl,HV.out.2.2,⟨0,by omega⟩,?_,?_,H3.out.2.2⟩
  ·rw[←HV.out.1];exact dW (by omega) HD.out.1
  ·rw[←HV.out.1,←HV.out.2.1];exact HL.out
 ·rw[decide_eq_false hlt]
  have Na:x≠[]:=by
   intro e;have h:=vV (B:=10000) (by omega) HD.out.2.1 HD.out.2.2.2.1 HD.out.2.2.2.2.1;rw[e]at hlt;simp only[val]at hlt;omega
  have hlen:y.length≤x.length:=qM (B:=10000) (by omega) HD.out.1 HD.out.2.1 HD.out.2.2.2.1 (by omega);obtain⟨gx,cx,e1,hgx,hX⟩:=Rg.of (base:=w.heap.size) H3.out.2.1 (Nat.le_refl _) Na;obtain⟨gy,cy,e2,hgy,hY⟩:=Rg.of (base:=w.heap.size) H3.out.1 H1.out.2.size HD.out.2.2.2.2.1;injection e1 with e11 e12 e13;injection e2 with e21 e22 e23;subst e11 e13 e21 e23
  have We:gx<gy:=by
   have h:=hX.2.2.1;obtain⟨_,_,ho⟩:=H1.out.1;have h2:=I7 (Kd.jd H1.out.1) gx rfl;omega
  obtain⟨L,hL⟩:∃L,x.length=L:=⟨_,rfl⟩;obtain⟨n,hn⟩:∃n,y.length=n:=⟨_,rfl⟩;have hyp:=List.length_pos_iff.2 HD.out.2.2.2.2.1;have hinv:=EE HD.out.1 HD.out.2.1 HD.out.2.2.2.1 HD.out.2.2.2.2.1 hlen;rw[hL,hn]at hinv;have hL1:=HD.out.2.2.2.2.2.1;have hn1:=HD.out.2.2.2.2.2.2;rw[hL]at hX hL1⊢;rw[hn]at hY hyp hn1⊢;rw[hL,hn]at hlen;have hmk:=pX (P:=Tryz.prog) 62 3 .i64 8 Tryz.underlying62 info3 (by decide) L (by omega);have hmd:=QH w3 w.heap.size L (by omega) H3.out.2.2.size (by omega);have hBm:=ag (Below.refl w3.heap.size w3) (.cells (madeCells #[.int .i64 0] L) 3);have hwd:wrap64 ((L:Int)- (n:Int))=(L:Int)- n:=fD (by omega) (by omega);have HS:=zM (zA hinv (zA (hX.below hBm) (zA (hY.below hBm) (zA hmd (ah H3.out.2.2 H3.out.2.2.size hBm)))));have HN:=zM (zA hyp (zA hlen (zA hL1 (zA hn1 (zA We (zA hY.2.2.1 (zA hn hgx)))))));clear hlt Na hlen hgx hX hgy hY We hL hn hyp hinv hmd hBm hL1 hn1;go_wp2_with fail;go_loopg [9] (L+1) (fun kq v9 W=>∃(up:Int) (x' q:List Int),v9= .int .i64 up∧Aside0 (-1≤up∧up+n≤L∧(up+1).toNat≤kq∧RInv (val 10000 x) (val 10000 y) L (up+1).toNat x' q∧Rg W w.heap.size gx L c1 x'∧Rg W w.heap.size gy n c2 y∧Rg W w.heap.size w3.heap.size L L q∧Below w.heap.size w W))
  case atStart=>exact⟨(L:Int)- n,x,List.replicate L 0,by rw[hwd],⟨by have:=HN.out.2.1;omega,by omega,by omega,by rw[show((L:Int)- n+1).toNat=L- n+1 by have:=HN.out.2.1;omega];exact HS.out.1,HS.out.2.1,HS.out.2.2.1,HS.out.2.2.2.1,HS.out.2.2.2.2⟩⟩
  case round=>
   clear HS hmk hwd;obtain⟨up,x',q,rfl,HR⟩:=hrel
   by_cases hup:0≤up
   ·obtain⟨u,rfl⟩:∃u:Nat,up=(u:Int):=⟨up.toNat,by omega⟩;have hu0:=zT hup;have huL:u<L:=by have:=HR.out.2.1;have:=HN.out.1;omega
    have hinv:=HR.out.2.2.2.1;rw[show((u:Int)+1).toNat=u+1 by omega]at hinv;have hbound:=ED hinv huL;have HI:=zM (zA hinv (zA hbound huL));clear hinv hbound huL hup;go_wp2_with fail;refine(Gs L n wr w.heap.size gx c1 gy c2 u x' y HR.out.2.2.2.2.1 HR.out.2.2.2.2.2.1 HI.out.1.xd HD.out.2.1 (by have:=HI.out.2.2;omega) (by have:=HN.out.2.2.1;omega) (by have:=HN.out.2.2.2.1;omega) HI.out.2.1).mono ?_;rintro e w4 ⟨f,rfl,f0,f1,f2,f3,hb4⟩;have HF:=zM (zA f0 (zA f1 (zA f2 f3)));have HR4:=zM (zA (HR.out.2.2.2.2.1.below hb4) (zA (HR.out.2.2.2.2.2.1.below hb4) (zA (HR.out.2.2.2.2.2.2.1.below hb4) (ah HR.out.2.2.2.2.2.2.2 HR.out.2.2.2.2.2.2.2.size hb4))));clear f0 f1 f2 f3 hb4;have hqc:=HR4.out.2.2.1.cell (u:Int) (by omega) (by have:=HI.out.2.2;omega);rw[Int.toNat_natCast]at hqc;obtain⟨hq0,hqf⟩:=hqc;have hu1:((u:Int)<(L:Int))=True:=eq_true (by have:=HI.out.2.2;omega);have hu2:(u<L)=True:=eq_true HI.out.2.2;have Ol:gx≠w3.heap.size:=by have:=HN.out.2.2.2.2.1;have:=HN.out.2.2.2.2.2.1;omega
    have Om:gy≠w3.heap.size:=by have:=HN.out.2.2.2.2.2.1;omega
    have hput:=HR4.out.2.2.1.put (u:Int) f;rw[Int.toNat_natCast]at hput;obtain⟨w5,hw5⟩:∃w5,w4.setCell ⟨w3.heap.size,u,none⟩ (.int .i64 f)=w5:=⟨_,rfl⟩;rw[hw5]at hput;have BO:=zM (zA (show Rg w5 w.heap.size gx L c1 x' by rw[←hw5];exact HR4.out.1.other Ol _ _) (zA (show Rg w5 w.heap.size gy n c2 y by rw[←hw5];exact HR4.out.2.1.other Om _ _) (zA hput (show Below w.heap.size w w5 by rw[←hw5];exact HR4.out.2.2.2.setCell HR4.out.2.2.1.2.1 _))));have ad4:=(hput.cell (u:Int) (by omega) (by have:=HI.out.2.2;omega)).1;rw[Int.toNat_natCast,qE _ _ _ (by rw[HI.out.1.ql];exact HI.out.2.2)]at ad4;have HG:=zM (zA Ol Om);clear hput Ol Om;obtain⟨k1,rfl⟩:∃k1,gk=k1+1:=⟨gk- 1,by have:=HR.out.2.2.1;omega⟩;have hwu:wrap64 ((u:Int)- 1)=(u:Int)- 1:=fD (by omega) (by have:=HI.out.2.2;have:=HN.out.2.2.1;omega)
    by_cases hf:f=0
    ·have hf1:decide (0<f)=false:=decide_eq_false (by omega);have HF0:=zM hf;clear hf;go_upto_region 10 with(fail)
     (try rw[hw5]);clear hw5
     clear hq0 hqf;go_wp2_with fail;go_roundg k1
     case measure=>omega
     case rel=>
      refine⟨(u:Int)- 1,x',q.set u f,by rw[hwu],⟨by omega,by have:=HR.out.2.1;omega,by have:=HR.out.2.2.1;omega,?_,BO.out.1,BO.out.2.1,BO.out.2.2.1,BO.out.2.2.2⟩⟩;rw[show((u:Int)- 1+1).toNat=u by omega,HF0.out];have h:=HF.out.2.2.2;rw[HF0.out]at h;exact GU HI.out.1 HI.out.2.2 h
    ·have hf1:decide (0<f)=true:=decide_eq_true (by have:=HF.out.1;omega);clear hf;go_upto_region 10 with(fail)
     (try rw[hw5]);clear hw5
     clear hq0 hqf;go_wp2_with fail;refine(G5 L n w w5 gx c1 gy c2 u f x' y BO.out.2.2.2 BO.out.1 BO.out.2.1 (by have:=HN.out.2.2.2.2.1;omega) HI.out.1.xd HD.out.2.1 HF.out.1 HF.out.2.1 (by have:=HR.out.2.1;omega) (by have:=HN.out.2.2.1;omega) HF.out.2.2.1).mono ?_;rintro e w6 ⟨r,rfl,h1,h2,h3,h4,h5,h6,h7⟩;have hyk:=BO.out.2.1.keep h6 (h7 _ BO.out.2.1.2.2.1 (by have:=HN.out.2.2.2.2.1;omega));have hqk:=BO.out.2.2.1.keep h6 (h7 _ BO.out.2.2.1.2.2.1 (Ne.symm HG.out.1));have HT:=zM (zA h1 (zA hyk (zA hqk (zA h5 (Ah HI.out.1 HI.out.2.2 HF.out.1 HF.out.2.1 HF.out.2.2.2 (by have:=h1.1;omega) h2 h3 h4)))));clear h1 h2 h3 h4 h5 h6 h7 hyk hqk;go_wp2_with fail;go_roundg k1
     case measure=>omega
     case rel=>exact⟨(u:Int)- 1,r,q.set u f,by rw[hwu],⟨by omega,by have:=HR.out.2.1;omega,by have:=HR.out.2.2.1;omega,by rw[show((u:Int)- 1+1).toNat=u by omega];exact HT.out.2.2.2.2,HT.out.1,HT.out.2.1,HT.out.2.2.1,HT.out.2.2.2.1⟩⟩
   ·have hu0:=zF hup;have HU:=zM (show up= -1 by have:=HR.out.1;omega);clear hup;have hinv:=HR.out.2.2.2.1;rw[HU.out,show((-1:Int)+1).toNat=0 from rfl]at hinv;have HI:=zM hinv;clear hinv;go_wp2_with fail;refine(vO L _ L q wr HI.out.ql HR.out.2.2.2.2.2.2.1.C.1 HR.out.2.2.2.2.2.2.1.C.2 HI.out.qd (by have:=HN.out.2.2.1;omega)).mono ?_;rintro e w4 ⟨q2,rfl,h1,h2,h3,h4,h5,h6,h7⟩;have HQ:=zM (zA h1 (zA h2 (zA h3 (zA h4 (zA h5 (zA h6 (zA (HR.out.2.2.2.2.1.below h7) (ah HR.out.2.2.2.2.2.2.2 HR.out.2.2.2.2.2.2.2.size h7))))))));clear h1 h2 h3 h4 h5 h6 h7;go_wp2_with fail;refine(vT _ L q2 w4 HQ.out.2.2.2.2.2.1 HQ.out.2.2.2.2.1 HQ.out.1 HQ.out.2.1 HQ.out.2.2.2.1).mono ?_;rintro e w5 ⟨tq,rfl,h1,h2,h3⟩;have H5:=zM (zA (show dv tq=val 10000 q by rw[h2];exact HQ.out.2.2.1) (zA (HQ.out.2.2.2.2.2.2.1.below h3) (ah HQ.out.2.2.2.2.2.2.2 HQ.out.2.2.2.2.2.2.2.size h3)));clear h1 h2 h3;go_wp2_with fail;refine(vO L _ c1 x' w5 HI.out.xl H5.out.2.1.C.1 H5.out.2.1.C.2 HI.out.xd (by have:=HN.out.2.2.1;omega)).mono ?_;rintro e w6 ⟨x2,rfl,h1,h2,h3,h4,h5,h6,h7⟩;have HX:=zM (zA h1 (zA h2 (zA h3 (zA h4 (zA h5 (zA h6 (ah H5.out.2.2 H5.out.2.2.size h7)))))));clear h1 h2 h3 h4 h5 h6 h7;go_wp2_with fail;refine(vT _ c1 x2 w6 HX.out.2.2.2.2.2.1 HX.out.2.2.2.2.1 HX.out.1 HX.out.2.1 HX.out.2.2.2.1).mono ?_;rintro e w7 ⟨tr,rfl,h1,h2,h3⟩;have H7:=zM (zA h1 (zA (show dv tr=val 10000 x' by rw[h2];exact HX.out.2.2.1) (ah HX.out.2.2.2.2.2.2 HX.out.2.2.2.2.2.2.size h3)));clear h1 h2 h3;go_wp2_with fail;go_ret2;refine⟨tq,tr,rfl,H7.out.1,⟨val 10000 q,?_⟩,?_,?_,H7.out.2.2⟩
    ·rw[H7.out.2.1,←HV.out.1,←HV.out.2.1,HI.out.eq];omega
    ·rw[H7.out.2.1];exact dW (by omega) HI.out.xd
    ·rw[H7.out.2.1,←HV.out.2.1];have h:=HI.out.top;rwa [List.drop_zero]at h
structure NF (t:TypeId)(kd:IntKind)(w w':World)(g o n:Nat)(x:List Int):Prop where
 len:x.length=n
 cell:∀j,j<n→w'.cell? ⟨g,o+j,none⟩=some (.int kd (x.getD j 0))
 free:∀j,w'.frozen? ⟨g,j,none⟩=false
 qj:gm (·=g) w w'
 out:∀j,j<o∨o+n≤j→w'.cell? ⟨g,j,none⟩=w.cell? ⟨g,j,none⟩
 ty:∃cells,w'.heap[g]?=some (.cells cells t (0,0))
theorem NF.at {t:TypeId}{kd:IntKind}{w w':World}{g o n:Nat}{x:List Int}(h:NF t kd w w' g o n x)(i:Int)(h0:0≤i)(h1:i<n):w'.cell? ⟨g,o+i.toNat,none⟩=some (.int kd (rd x i))∧w'.frozen? ⟨g,o+i.toNat,none⟩=false:=
 ⟨h.cell i.toNat (by omega),h.free _⟩
theorem uw {w:World}{g i j:Nat}{v:Value}(h:i≠j):(w.setCell ⟨g,i,none⟩ v).cell? ⟨g,j,none⟩=w.cell? ⟨g,j,none⟩:=by
 rw[World.cell?_setCell_other];intro e;injection e;omega
theorem NF.set {t:TypeId}{kd:IntKind}{w w':World}{g o n:Nat}{x:List Int}(h:NF t kd w w' g o n x)(i:Int)(h0:0≤i)(h1:i<n)(v:Int):NF t kd w (w'.setCell ⟨g,o+i.toNat,none⟩ (.int kd v)) g o n (x.set i.toNat v):=by
 obtain⟨cells,hc⟩:=h.ty;have hs:=aN hc (o+i.toNat) (.int kd v);refine⟨by rw[List.length_set];exact h.len,fun j hj=>?_,fun j=>au hs j,h.qj.setCell _ (.inl rfl) _,fun j hj=>?_,⟨_,hs⟩⟩
 ·by_cases e:i.toNat=j
  ·subst e;have hx:=h.cell i.toNat (by omega);rw[aj hc]at hx;have hlt:o+i.toNat<cells.size:=(Array.getElem?_eq_some_iff.1 hx).1;rw[aj hs];simp[hlt,h.len,hj]
  ·rw[uw (by omega),h.cell j hj];simp[List.getElem?_set_ne e]
 ·rw[uw (by omega)];exact h.out j hj
theorem NF.drewN {t:TypeId}{kd:IntKind}{w w':World}{g o n:Nat}{x:List Int}(h:NF t kd w w' g o n x)(m:Nat):NF t kd w (w'.drewN m) g o n x:=⟨h.len,h.cell,h.free,h.qj.drewN m,h.out,h.ty⟩
theorem Oh (k g o c0:Nat)(l0:List Int)(A1:Option Addr)(c1:Nat)(l1:List Int)(r1:Int)(r2:List Int)(w:World)(n:Nat)(hm:NF 131 .u32 w w g o n l0)
  (hV:∀W,gm (·=g) w W→Kd.C (Kd.int .u32) W A1 l1.length l1) (hc1:l1.length≤c1) (h:aW.f k l0 l1=some (r1,r2)):
  Calls Tryz.prog 209 #[.slice (some ⟨g,o,none⟩) n c0,.slice A1 l1.length c1] w fun e w'=>e= .returned (.int .u32 r1)∧NF 131 .u32 w w' g o n r2:=by
 have HM:=zM hm;have HL:=zM hm.len;have HV:=zM hV;have MV:=zM hc1;have hlen:=hm.len;clear hm hV hc1;unfold aW.f at h
 by_cases c3:0≤(l1.length:Int)
 case neg=>exact absurd c3 (by omega)
 rw[if_pos c3]at h;clear c3
 by_cases c4:(l1.length:Int)<(l0.length:Int)
 case neg=>rw[if_neg c4]at h;exact absurd h (by simp)
 rw[if_pos c4]at h;rw[hlen]at c4 h;have ig:=zT c4;have oQ:decide (l1.length<n)=true:=decide_eq_true (Int.ofNat_lt.mp c4);obtain⟨rC,Oq⟩:=zI (wrap64 ((l1.length:Int)- 1));rw[Oq]at h;have ahc:(IntKind.i64.wrap ((l1.length:Int)- 1))=rC:=(dL _).trans Oq
 by_cases c6:0≤rC
 case neg=>rw[if_neg c6]at h;exact absurd h (by simp)
 rw[if_pos c6]at h
 by_cases c7:rC<(n:Int)
 case neg=>rw[if_neg c7]at h;exact absurd h (by simp)
 rw[if_pos c7]at h
 by_cases c8:rC<(l1.length:Int)
 case neg=>rw[if_neg c8]at h;exact absurd h (by simp)
 rw[if_pos c8]at h
 by_cases c9:(IntKind.u64.wrap (rd l1 rC))=0
 case pos=>rw[if_pos c9]at h;exact absurd h (by simp)
 rw[if_neg c9]at h;have qL:((IntKind.u64.wrap (rd l1 (rC)))==0)=false:=beq_eq_false_iff_ne.mpr c9;have UZ:((IntKind.u64.wrap (rd l1 (rC))) !=0)=true:=bne_iff_ne.mpr c9;obtain⟨iq,kY⟩:=zI (mn (IntKind.u64.wrap (Int.tdiv (Go.bits .or .u64 (IntKind.u64.wrap ((IntKind.u64.wrap (rd l0 (l1.length:Int)))*4294967296)) (IntKind.u64.wrap (rd l0 (rC)))) (IntKind.u64.wrap (rd l1 (rC))))) 4294967295);rw[kY]at h;have Oo:(if 4294967295<(IntKind.u64.wrap (Int.tdiv (Go.bits .or .u64 (IntKind.u64.wrap ((IntKind.u64.wrap (rd l0 (l1.length:Int)))*4294967296)) (IntKind.u64.wrap (rd l0 (rC)))) (IntKind.u64.wrap (rd l1 (rC)))))then 4294967295 else(IntKind.u64.wrap (Int.tdiv (Go.bits .or .u64 (IntKind.u64.wrap ((IntKind.u64.wrap (rd l0 (l1.length:Int)))*4294967296)) (IntKind.u64.wrap (rd l0 (rC)))) (IntKind.u64.wrap (rd l1 (rC))))))=iq:=kY;have H':=zM h;clear h kY hlen;obtain⟨hx160,_⟩:=HM.out.at (l1.length:Int) (by omega) c4;simp only[Int.toNat_natCast]at hx160;obtain⟨ahp,_⟩:=HM.out.at rC c6 c7;obtain⟨UI,e162,ahq⟩:=Kd.dM (HV.out w (gm.refl _ _)) rC c6 c8;cases e162;have HCH:=zM (gm.refl (·=g) w);have c6b:=zT c6;have c7b:=zT c7;have c8b:=zT c8;replace c4:=eq_true c4;replace c6:=eq_true c6;replace c7:=eq_true c7;replace c8:=eq_true c8;go_enter Tryz.func209,Tryz.ntmps209;go_wp2;go_quiet (fail);go_wp2;go_loopg [7,8,41] k (fun kq v7 v8 v41 w'=>∃(aU:List Int) (dO:Int) (bU:Int) (eX:Int),v7= .int .u64 dO∧v8= .int .u64 bU∧v41= .int .i64 eX∧Aside0 (aW.l0 kq aU l1 (l1.length:Int) iq dO bU l1 (l1.length:Int) eX=some (r1,r2))∧Aside0 (kq≤k)∧Aside0 (NF 131 .u32 w w' g o n aU))
 case atStart=>exact⟨l0,0,0,0,zR,zR,zR,H',⟨Nat.le_refl _⟩,⟨by first|exact HM.out|exact HM.out.drewN _⟩⟩
 case round=>
  clear H' Oo hx160 ahp ahq c9 qL UZ;obtain⟨aU,dO,bU,eX,rfl,rfl,rfl,HA,fM,Ue⟩:=hrel;cases gk with
  |zero=>exact absurd HA.out (by simp[aW.l0])
  |succ k1=>
   have H:=HA.out;clear HA;have hxl:=Ue.out.len;simp only[aW.l0,hxl]at H
   by_cases d1:eX<(l1.length:Int)
   ·rw[if_pos d1]at H
    by_cases d2:0≤eX
    case neg=>rw[if_neg d2]at H;exact absurd H (by simp)
    rw[if_pos d2,if_pos d1]at H
    by_cases d3:eX<(n:Int)
    case neg=>rw[if_neg d3]at H;exact absurd H (by simp)
    rw[if_pos d3]at H;have H':=zM H;clear H hxl;obtain⟨hx1,hf1⟩:=Ue.out.at eX d2 d3;obtain⟨ad2,e2,hx2⟩:=Kd.dM (HV.out wr Ue.out.qj) eX d2 d1;cases e2;have QU:=zM (Ue.out.set eX d2 d3 ((IntKind.u64.wrap ((IntKind.u64.wrap ((IntKind.u64.wrap (rd aU eX))- (Go.bits .and .u64 (IntKind.u64.wrap (dO+(IntKind.u64.wrap (iq*(IntKind.u64.wrap (rd l1 eX)))))) 4294967295)))- bU))%4294967296));have d1b:=zT d1;replace d1:=eq_true d1;replace d2:=eq_true d2;replace d3:=eq_true d3;clear Ue;go_wp2;go_roundg k1
    case measure=>have:=fM.out;omega
    case rel=>exact⟨_,_,_,_,rfl,rfl,(by first|rfl|(simp;done)),H',⟨by have:=fM.out;omega⟩,QU⟩
   ·rw[if_neg d1,if_pos (by omega),if_pos (of_eq_true c4)]at H;have QU:=zM (Ue.out.set (l1.length:Int) (by omega) (of_eq_true c4) ((IntKind.u64.wrap ((IntKind.u64.wrap ((IntKind.u64.wrap (rd aU (l1.length:Int)))- dO))- bU))%4294967296));simp only[Int.toNat_natCast]at QU H;have H':=zM H;clear H hxl;obtain⟨hx1,hf1⟩:=Ue.out.at (l1.length:Int) (by omega) (of_eq_true c4);simp only[Int.toNat_natCast]at hx1 hf1;have d1b:=zF d1;clear d1 Ue;go_wp2;go_loopg [6,13] k1 (fun kq v6 v13 w'=>∃(EO:List Int) (zt:Int) (zq:Bool),v6= .int .u64 zt∧v13= .bool zq∧Aside0 (aW.l1 kq EO l1 (l1.length:Int) zt zq=some (r1,r2))∧Aside0 (kq≤k1)∧Aside0 (NF 131 .u32 w w' g o n EO))
    case atStart=>exact⟨_,_,_,rfl,rfl,H',⟨Nat.le_refl _⟩,QU⟩
    case round=>
     clear H' QU hx1 hf1;obtain⟨EO,zt,zq,rfl,rfl,HA,BK,QU⟩:=hrel;cases gk with
     |zero=>exact absurd HA.out (by simp[aW.l1])
     |succ k2=>
      have H:=HA.out;clear HA;simp only[aW.l1]at H;cases zq with
      |false=>
       rw[if_neg (by simp)]at H;simp only[Option.some.injEq,Prod.mk.injEq]at H;obtain⟨rfl,rfl⟩:=H;go_wp2;go_ret;exact⟨rfl,QU.out⟩
      |true=>
       rw[if_pos rfl]at H;have H':=zM H;clear H;go_wp2;go_loopg [7,94] k2 (fun kq v7 v94 w'=>∃(jy:List Int) (gB:Int) (fB:Int),v7= .int .u64 gB∧v94= .int .i64 fB∧Aside0 (aW.l2 kq jy l1 (l1.length:Int) zt gB l1 (l1.length:Int) fB=some (r1,r2))∧Aside0 (kq≤k2)∧Aside0 (NF 131 .u32 w w' g o n jy))
       case atStart=>exact⟨_,_,_,rfl,rfl,H',⟨Nat.le_refl _⟩,QU⟩
       case round=>
        clear H' QU;obtain⟨jy,gB,fB,rfl,rfl,HA,yw,TL⟩:=hrel;cases gk with
        |zero=>exact absurd HA.out (by simp[aW.l2])
        |succ k3=>
         have H:=HA.out;clear HA;have hxl:=TL.out.len;simp only[aW.l2,hxl]at H
         by_cases d1:fB<(l1.length:Int)
         ·rw[if_pos d1]at H
          by_cases d2:0≤fB
          case neg=>rw[if_neg d2]at H;exact absurd H (by simp)
          rw[if_pos d2,if_pos d1]at H
          by_cases d3:fB<(n:Int)
          case neg=>rw[if_neg d3]at H;exact absurd H (by simp)
          rw[if_pos d3]at H;have H':=zM H;clear H hxl;obtain⟨hx1,hf1⟩:=TL.out.at fB d2 d3;obtain⟨ad2,e2,hx2⟩:=Kd.dM (HV.out wr TL.out.qj) fB d2 d1;cases e2;have HM4:=zM (TL.out.set fB d2 d3 ((IntKind.u64.wrap (gB+(IntKind.u64.wrap ((IntKind.u64.wrap (rd jy fB))+(IntKind.u64.wrap (rd l1 fB))))))%4294967296));have d1b:=zT d1;replace d1:=eq_true d1;replace d2:=eq_true d2;replace d3:=eq_true d3;clear TL;go_wp2;go_roundg k3
          case measure=>have:=yw.out;omega
          case rel=>exact⟨_,_,_,rfl,rfl,H',⟨by have:=yw.out;omega⟩,HM4⟩
         ·rw[if_neg d1,if_pos (by omega),if_pos (of_eq_true c4)]at H;have HM4:=zM (TL.out.set (l1.length:Int) (by omega) (of_eq_true c4) ((IntKind.u64.wrap (gB+(IntKind.u64.wrap (rd jy (l1.length:Int)))))%4294967296));simp only[Int.toNat_natCast]at HM4 H;have H':=zM H;clear H hxl;obtain⟨hx1,hf1⟩:=TL.out.at (l1.length:Int) (by omega) (of_eq_true c4);simp only[Int.toNat_natCast]at hx1 hf1;have d1b:=zF d1;clear d1 TL;go_wp2;go_roundg k3
          case measure=>have:=BK.out;have:=yw.out;omega
          case rel=>exact⟨_,_,_,rfl,rfl,H',⟨by have:=BK.out;have:=yw.out;omega⟩,HM4⟩
def Hl (q r:List Int)(w:World)(e:Ending)(w':World):Prop:=
 ∃A2 c2 A3 c3,e= .returned (.tuple #[.slice A2 q.length c2,.slice A3 r.length c3])∧q.length≤c2∧r.length≤c3∧U w' A2 q∧U w' A3 r∧Below w.heap.size w w'
theorem J4 (A0:Option Addr)(c0:Nat)(a:List Int)(A1:Option Addr)(c1:Nat)(b:List Int)(w:World)(hA:U w A0 a)(ha:a.length≤c0)(hB:U w A1 b)(hb:b.length≤c1)(wa:Wd a)(wb:Wd b)(hlt:val 4294967296 a<val 4294967296 b):
  Calls Tryz.prog 159 #[.slice A0 a.length c0,.slice A1 b.length c1] w (Hl [] a w):=by
 obtain⟨rc,hr,_,_,hev⟩:=nI wa.1 wb.1 wa.2.1 wb.2.1 (by have:=wa.2.2;omega) (by have:=wb.2.2;omega);obtain⟨k,hk⟩:=hev.rounds;have hneg:decide (rc<0)=true:=decide_eq_true (hr.1.2 hlt);have HA:=zM hA;have Hwa:=zM wa;have HCL:=zM (bY.calls k A0 c0 a A1 c1 b rc w hA.now ha hB.now hb hk);clear hA hB wa wb hlt hr hev hk ha hb;go_enter Tryz.func159,Tryz.ntmps159;go_wp2_with fail;refine HCL.out.mono ?_;rintro e w1 ⟨rfl,hd⟩;have HD:=zM hd;clear hd HCL;go_wp2_with fail;refine(F5 A0 c0 a w1 (HA.out.drawn HD.out).now (by have:=Hwa.out.2.2;omega)).mono ?_;rintro e w2 ⟨A',c',rfl,hc',hU',hb'⟩;have HP:=zM (show U w2 none []∧a.length≤c'∧U w2 A' a∧Below w.heap.size w w2 from⟨U.nil _,hc',hU',ah HD.out.below HD.out.below.size hb'⟩);clear hc' hU' hb';go_wp2_with fail;go_ret2;exact⟨none,0,A',c',rfl,Nat.le_refl _,HP.out.2.1,HP.out.1,HP.out.2.2.1,HP.out.2.2.2⟩
theorem Qz (W:World)(xs:List Int)(hm:xs.length≤9223372036854775807):U (W.alloc (.cells (nums .u32 xs).toArray 131)) (some ⟨W.heap.size,0,none⟩) xs:=by
 have h:Kd.R (Kd.int .u32) 131 (W.alloc (.cells (nums .u32 xs).toArray 131)) W.heap.size (fun _=>True) (.slice (some ⟨W.heap.size,0,none⟩) xs.length xs.length) xs:=
  Kd.iR (I5 W W.heap.size 131 .u32 xs (Nat.le_refl _) hm) (fun _ _=>trivial)
 obtain⟨A,c,e,_,hU⟩:=U.E5 h;injection e with e1 e2 e3;subst e1;exact hU
def H9 (xs r:List Int):Prop:=(∃n,n≤xs.length∧r=xs.take n)∧∃k,dh.f k xs=some r
theorem zk {xs:List Int}(hd:gV 4294967296 xs)(hl:xs.length≤1000000):∃r,H9 xs r∧Wd r∧val 4294967296 r=val 4294967296 xs∧r.length≤xs.length:=by
 obtain⟨n,hn,ht,hv,he⟩:=sZ 4294967296 xs (by omega);obtain⟨k,hk⟩:=he.rounds;have hlen:(xs.take n).length=n:=by rw[List.length_take];omega
 exact⟨xs.take n,⟨⟨n,hn,rfl⟩,k,hk⟩,⟨fK hd n,ht,by omega⟩,hv,by omega⟩
theorem Jn (A0:Option Addr)(c0:Nat)(xs r:List Int)(w:World)(hU:U w A0 xs)(hc0:xs.length≤c0)(h:H9 xs r):
  Calls Tryz.prog 206 #[.slice A0 xs.length c0] w fun e w'=>e= .returned (.slice A0 r.length c0)∧r.length≤c0∧U w' A0 r∧Below w.heap.size w w':=by
 obtain⟨⟨n,hn,rfl⟩,k,hk⟩:=h;have hlen:(xs.take n).length=n:=by rw[List.length_take];omega
 exact(Tz k A0 c0 xs _ w hU.now hc0 hk).mono fun e w' ⟨he,hb⟩=>⟨he,by omega,(hU.below hb).take hn,hb⟩
theorem Iw (A0:Option Addr)(c0:Nat)(a:List Int)(A1:Option Addr)(c1:Nat)(b:List Int)(w:World)(hA:U w A0 a)(ha:a.length≤c0)(hB:U w A1 b)(hb:b.length≤c1)(wa:Wd a)(wb:Wd b)(hge:val 4294967296 b≤val 4294967296 a)(hb1:b.length=1):
  ∃q r,Wd q∧Wd r∧val 4294967296 a=val 4294967296 q*val 4294967296 b+val 4294967296 r∧val 4294967296 r<val 4294967296 b∧Calls Tryz.prog 159 #[.slice A0 a.length c0,.slice A1 b.length c1] w (Hl q r w):=by
 obtain⟨rc,hr,_,_,hev⟩:=nI wa.1 wb.1 wa.2.1 wb.2.1 (by have:=wa.2.2;omega) (by have:=wb.2.2;omega);obtain⟨k,hk⟩:=hev.rounds;have hneg:decide (rc<0)=false:=decide_eq_false (fun h=>by have:=hr.1.1 h;omega);have hbn:b≠[]:=by intro e;subst e;simp at hb1
 have hv1:val 4294967296 b=rd b 0:=by
  match b,hb1 with
  | [x],_=>simp[val,rd]
 have hpos:0<rd b 0:=by rw[←hv1];exact vV (by omega) wb.1 wb.2.1 hbn
 have hlt:rd b 0<4294967296:=(gG wb.1 0 (by simp;omega)).2;obtain⟨q0,r0,hes,Wn,hqd,hr0,hr1,hv⟩:=BC wa.1 hpos hlt (by have:=wa.2.2;omega);obtain⟨k2,hk2⟩:=hes.rounds;obtain⟨q,hq,wq,hqv,am1⟩:=zk hqd (by have:=wa.2.2;omega);obtain⟨r,hr',wr,RS,am2⟩:=zk (xs:=[r0]) (jX.2 ⟨⟨hr0,by omega⟩,nJ _⟩) (by simp);have hvr:val 4294967296 [r0]=r0:=by simp[val]
 refine⟨q,r,wq,wr,by rw[hqv,RS,hvr,hv1];exact hv,by rw[RS,hvr,hv1];exact hr1,?_⟩;have HA:=zM hA;have HB:=zM hB;have Hwa:=zM wa;have HL:=zM (zA ha hb);have HCL:=zM (bY.calls k A0 c0 a A1 c1 b rc w hA.now ha hB.now hb hk);have hl1:((b.length:Int)==1)=true:=by rw[beq_iff_eq];omega
 have hl0:(0:Int)<(b.length:Int):=by omega
 have Hk2:=zM hk2;have Hq:=zM hq;have Hr:=zM hr';clear hA hB wa wb hge hr hev hk ha hb hbn hv1 hpos hlt hes Wn hqd hr0 hr1 hv hk2 hq wq hqv am1 hr' wr RS am2 hvr hb1;go_enter Tryz.func159,Tryz.ntmps159;go_wp2_with fail;refine HCL.out.mono ?_;rintro e w1 ⟨rfl,hd⟩;have HD:=zM hd;have HA1:=zM (HA.out.drawn hd);obtain⟨ad,e2,hx2⟩:=Kd.dM (HB.out.drawn hd).now 0 (by omega) hl0;cases e2;have asl:w1.cell? ad=some (.int .u32 (rd b 0)):=by simpa[Addr.add]using hx2
 clear hd HCL HB hx2;go_wp2_with fail;refine(dF.calls k2 A0 c0 a (rd b 0) q0 r0 w1 HA1.out.now HL.out.1 Hk2.out).mono ?_;rintro e w2 ⟨v0,rfl,hR,hb2⟩;obtain⟨Aq,cq,rfl,hcq,hUq⟩:=U.E5 hR;have HB2:=zM hb2;have HUq:=zM hUq;have HCq:=zM hcq;clear hR hb2 hUq hcq;go_wp2_with fail;refine(Jn Aq cq q0 q w2 HUq.out HCq.out Hq.out).mono ?_;rintro e w3 ⟨rfl,hc3,V6,hb3⟩;have HP3:=zM (zA hc3 (zA V6 hb3));clear hc3 V6 hb3;go_wp2_with fail;refine(Jn (some ⟨w3.heap.size,0,none⟩) 1 [r0] r _ (Qz w3 [r0] (by simp)) (by simp) Hr.out).mono ?_;rintro e w4 ⟨rfl,hc4,hU4,hb4⟩;have HP4:=zM (zA hc4 (zA hU4 hb4));clear hc4 hU4 hb4;go_wp2_with fail;go_ret2;have h1:=HP3.out;have h2:=HP4.out;have ah2:Below w3.heap.size w3 w4:=ah (ag (Below.refl _ _) _) (by simp) h2.2.2;have RJ:Below w1.heap.size w1 w3:=ah HB2.out HB2.out.size h1.2.2;exact⟨Aq,cq,_,_,rfl,h1.1,h2.1,h1.2.1.below ah2,h2.2.1,ah HD.out.below HD.out.below.size (ah RJ RJ.size ah2)⟩
theorem rV:Canon ⟨#[48]⟩:=⟨by decide,fun _=>by decide,fun x hx=>by simp[bytesOf]at hx;omega⟩
end Go.Proofs.YthbdjmopolpjmaaGreatDoor.C
namespace Go.Proofs
open Go.Shelf
def Tryz.KX:Go.Shelf.Ren:=⟨fun|128=>103|n=>n,fun|51=>131|3=>3|4=>4|46=>97|5=>5|9=>9|n=>n,fun|n=>n⟩
theorem Tryz.lays128:Go.Proofs.Lays.n128 Tryz.prog Tryz.KX:={
 mixed:=by kernel_rfl
 f128:=Tryz.func103.trans (congrArg some (by kernel_rfl))
 t3:=Tryz.underlying3
 a3:=Tryz.isAgg3
 z3:=Tryz.sizeOf3
 v3:=Tryz.zeroValue3
 t4:=Tryz.underlying4
 a4:=Tryz.isAgg4
 z4:=Tryz.sizeOf4
 v4:=Tryz.zeroValue4
 t5:=Tryz.underlying5
 a5:=Tryz.isAgg5
 z5:=Tryz.sizeOf5
 v5:=Tryz.zeroValue5
 t9:=Tryz.underlying9
 a9:=Tryz.isAgg9
 z9:=Tryz.sizeOf9
 v9:=Tryz.zeroValue9
 t46:=Tryz.underlying97
 a46:=Tryz.isAgg97
 z46:=Tryz.sizeOf97
 v46:=Tryz.zeroValue97
 t51:=Tryz.underlying131
 a51:=Tryz.isAgg131
 z51:=Tryz.sizeOf131
 v51:=Tryz.zeroValue131}
theorem Tryz.bits_Len32 (x:Int)(w:World)(h0:0≤x)(h1:x≤4294967295):
  Calls Tryz.prog 103 #[.int .u32 x] w fun e w'=>e= .returned (.int .i64 (Lib.bitLen x.toNat))∧w'=w:=Any.bits_Len32 Tryz.lays128 x w h0 h1
def Tryz.KY:Go.Shelf.Ren:=⟨fun|133=>207|128=>103|n=>n,fun|51=>131|3=>3|4=>4|46=>97|5=>5|9=>9|n=>n,fun|n=>n⟩
theorem Tryz.Z9:Go.Proofs.Lays.n133 Tryz.prog Tryz.KY:={
 mixed:=by kernel_rfl
 f128:=Tryz.func103.trans (congrArg some (by kernel_rfl))
 f133:=Tryz.func207.trans (congrArg some (by kernel_rfl))
 t3:=Tryz.underlying3
 a3:=Tryz.isAgg3
 z3:=Tryz.sizeOf3
 v3:=Tryz.zeroValue3
 t4:=Tryz.underlying4
 a4:=Tryz.isAgg4
 z4:=Tryz.sizeOf4
 v4:=Tryz.zeroValue4
 t5:=Tryz.underlying5
 a5:=Tryz.isAgg5
 z5:=Tryz.sizeOf5
 v5:=Tryz.zeroValue5
 t9:=Tryz.underlying9
 a9:=Tryz.isAgg9
 z9:=Tryz.sizeOf9
 v9:=Tryz.zeroValue9
 t46:=Tryz.underlying97
 a46:=Tryz.isAgg97
 z46:=Tryz.sizeOf97
 v46:=Tryz.zeroValue97
 t51:=Tryz.underlying131
 a51:=Tryz.isAgg131
 z51:=Tryz.sizeOf131
 v51:=Tryz.zeroValue131}
theorem Tryz.bits_LeadingZeros32 (x:Int)(w:World)(h0:0≤x)(h1:x≤4294967295):
  Calls Tryz.prog 207 #[.int .u32 x] w fun e w'=>e= .returned (.int .i64 (32- (Lib.bitLen x.toNat:Int)))∧w'=w:=Any.bits_LeadingZeros32 Tryz.Z9 x w h0 h1
def Tryz.lays156_ren:Go.Shelf.Ren:=⟨fun|156=>56|165=>89|166=>90|169=>91|240=>125|241=>126|276=>171|277=>172|n=>n,fun|31=>30|9=>9|3=>3|4=>4|0=>0|20=>20|72=>147|76=>149|70=>145|37=>50|75=>44|127=>199|164=>113|5=>5|80=>89|n=>n,fun|n=>n⟩
theorem Tryz.lays156:Go.Proofs.Lays.n156 Tryz.prog Tryz.lays156_ren:={
 mixed:=by kernel_rfl
 f156:=Tryz.func56.trans (congrArg some (by kernel_rfl))
 f165:=Tryz.func89.trans (congrArg some (by kernel_rfl))
 f166:=Tryz.func90.trans (congrArg some (by kernel_rfl))
 f169:=Tryz.func91.trans (congrArg some (by kernel_rfl))
 f240:=Tryz.func125.trans (congrArg some (by kernel_rfl))
 f241:=Tryz.func126.trans (congrArg some (by kernel_rfl))
 f276:=Tryz.func171.trans (congrArg some (by kernel_rfl))
 f277:=Tryz.func172.trans (congrArg some (by kernel_rfl))
 t0:=Tryz.underlying0
 a0:=Tryz.isAgg0
 z0:=Tryz.sizeOf0
 v0:=Tryz.zeroValue0
 t3:=Tryz.underlying3
 a3:=Tryz.isAgg3
 z3:=Tryz.sizeOf3
 v3:=Tryz.zeroValue3
 t4:=Tryz.underlying4
 a4:=Tryz.isAgg4
 z4:=Tryz.sizeOf4
 v4:=Tryz.zeroValue4
 t9:=Tryz.underlying9
 a9:=Tryz.isAgg9
 z9:=Tryz.sizeOf9
 v9:=Tryz.zeroValue9
 t20:=Tryz.underlying20
 a20:=Tryz.isAgg20
 z20:=Tryz.sizeOf20
 v20:=Tryz.zeroValue20
 t31:=Tryz.underlying30
 a31:=Tryz.isAgg30
 z31:=Tryz.sizeOf30
 v31:=Tryz.zeroValue30
 t37:=Tryz.underlying50
 a37:=Tryz.isAgg50
 z37:=Tryz.sizeOf50
 v37:=Tryz.zeroValue50
 t70:=Tryz.underlying145
 a70:=Tryz.isAgg145
 z70:=Tryz.sizeOf145
 v70:=Tryz.zeroValue145
 t72:=Tryz.underlying147
 a72:=Tryz.isAgg147
 z72:=Tryz.sizeOf147
 v72:=Tryz.zeroValue147
 t75:=Tryz.underlying44
 a75:=Tryz.isAgg44
 z75:=Tryz.sizeOf44
 v75:=Tryz.zeroValue44
 t76:=Tryz.underlying149
 a76:=Tryz.isAgg149
 z76:=Tryz.sizeOf149
 v76:=Tryz.zeroValue149
 t127:=Tryz.underlying199
 a127:=Tryz.isAgg199
 z127:=Tryz.sizeOf199
 v127:=Tryz.zeroValue199
 t164:=Tryz.underlying113
 a164:=Tryz.isAgg113
 z164:=Tryz.sizeOf113
 v164:=Tryz.zeroValue113}
theorem Tryz.Builder_Extra_156:Builder.Extra Tryz.prog Tryz.lays156_ren:={
 sizeBuilder:=by kernel_rfl
 liesBuilder:=by kernel_rfl
 t5:=Tryz.underlying5
 a5:=Tryz.isAgg5
 z5:=Tryz.sizeOf5
 v5:=Tryz.zeroValue5
 infoByte:=by kernel_rfl
 cellsByte:=by kernel_rfl
 sizeByte:=by kernel_rfl
 neB5:=by decide}
open Go.RowKit in
theorem Tryz.strings_Join (bk o c:Nat)(xs:List ByteArray)(sep:ByteArray)(w:World)(hcells:∀(j:Nat) x,xs[j]?=some x→w.cell? ⟨bk,o+j,none⟩=some (.string x))(hbk:bk<w.heap.size)(hN:xs.length≤140737488355328)(hcap:xs.length≤c)(hlen:(Lib.join (xs.map (·.data.toList)) sep.data.toList).length≤140737488355328):
  Calls Tryz.prog 56 #[.slice (some ⟨bk,o,none⟩) xs.length c,.string sep] w fun e w'=>e= .returned (.string ⟨(Lib.join (xs.map (·.data.toList)) sep.data.toList).toArray⟩)∧Below w.heap.size w w':=Any.strings_Join Tryz.lays156 Tryz.Builder_Extra_156 bk o c xs sep w hcells hbk hN hcap hlen
def Tryz.IW:Go.Shelf.Ren:=⟨fun|171=>31|243=>62|246=>105|283=>135|284=>136|285=>137|286=>138|129=>104|317=>180|318=>181|319=>182|320=>183|337=>218|338=>219|n=>n,fun|3=>3|9=>9|2=>2|4=>4|171=>209|0=>0|53=>162|37=>50|5=>5|173=>211|212=>271|51=>131|20=>20|213=>272|46=>97|232=>326|233=>327|n=>n,fun|17=>3|18=>6|19=>7|n=>n⟩
theorem Tryz.laysM171:Go.Proofs.LaysM.n171 Tryz.prog Tryz.IW:={
 mixed:=by kernel_rfl
 f129:=Tryz.func104.trans (congrArg some (by kernel_rfl))
 f171:=Tryz.func31.trans (congrArg some (by kernel_rfl))
 f243:=Tryz.func62.trans (congrArg some (by kernel_rfl))
 f246:=Tryz.func105.trans (congrArg some (by kernel_rfl))
 f283:=Tryz.func135.trans (congrArg some (by kernel_rfl))
 f284:=Tryz.func136.trans (congrArg some (by kernel_rfl))
 f285:=Tryz.func137.trans (congrArg some (by kernel_rfl))
 f286:=Tryz.func138.trans (congrArg some (by kernel_rfl))
 f317:=Tryz.func180.trans (congrArg some (by kernel_rfl))
 f318:=Tryz.func181.trans (congrArg some (by kernel_rfl))
 f319:=Tryz.func182.trans (congrArg some (by kernel_rfl))
 f320:=Tryz.func183.trans (congrArg some (by kernel_rfl))
 f337:=Tryz.func218.trans (congrArg some (by kernel_rfl))
 f338:=Tryz.func219.trans (congrArg some (by kernel_rfl))
 t0:=Tryz.underlying0
 a0:=Tryz.isAgg0
 z0:=Tryz.sizeOf0
 v0:=Tryz.zeroValue0
 t2:=Tryz.underlying2
 a2:=Tryz.isAgg2
 z2:=Tryz.sizeOf2
 v2:=Tryz.zeroValue2
 t3:=Tryz.underlying3
 a3:=Tryz.isAgg3
 z3:=Tryz.sizeOf3
 v3:=Tryz.zeroValue3
 t4:=Tryz.underlying4
 a4:=Tryz.isAgg4
 z4:=Tryz.sizeOf4
 v4:=Tryz.zeroValue4
 t5:=Tryz.underlying5
 a5:=Tryz.isAgg5
 z5:=Tryz.sizeOf5
 v5:=Tryz.zeroValue5
 t9:=Tryz.underlying9
 a9:=Tryz.isAgg9
 z9:=Tryz.sizeOf9
 v9:=Tryz.zeroValue9
 t20:=Tryz.underlying20
 a20:=Tryz.isAgg20
 z20:=Tryz.sizeOf20
 v20:=Tryz.zeroValue20
 t37:=Tryz.underlying50
 a37:=Tryz.isAgg50
 z37:=Tryz.sizeOf50
 v37:=Tryz.zeroValue50
 t46:=Tryz.underlying97
 a46:=Tryz.isAgg97
 z46:=Tryz.sizeOf97
 v46:=Tryz.zeroValue97
 t51:=Tryz.underlying131
 a51:=Tryz.isAgg131
 z51:=Tryz.sizeOf131
 v51:=Tryz.zeroValue131
 t53:=Tryz.underlying162
 a53:=Tryz.isAgg162
 z53:=Tryz.sizeOf162
 v53:=Tryz.zeroValue162
 t171:=Tryz.underlying209
 a171:=Tryz.isAgg209
 z171:=Tryz.sizeOf209
 v171:=Tryz.zeroValue209
 t173:=Tryz.underlying211
 a173:=Tryz.isAgg211
 z173:=Tryz.sizeOf211
 v173:=Tryz.zeroValue211
 t212:=Tryz.underlying271
 a212:=Tryz.isAgg271
 z212:=Tryz.sizeOf271
 v212:=Tryz.zeroValue271
 t213:=Tryz.underlying272
 a213:=Tryz.isAgg272
 z213:=Tryz.sizeOf272
 t232:=Tryz.underlying326
 a232:=Tryz.isAgg326
 z232:=Tryz.sizeOf326
 v232:=Tryz.zeroValue326
 t233:=Tryz.underlying327
 a233:=Tryz.isAgg327
 z233:=Tryz.sizeOf327
 v233:=Tryz.zeroValue327
 g17:=by kernel_rfl
 g18:=by kernel_rfl
 g19:=by kernel_rfl
 i0:=by kernel_rfl
 i2:=by kernel_rfl
 i3:=by kernel_rfl
 i4:=by kernel_rfl
 i5:=by kernel_rfl
 i9:=by kernel_rfl
 i20:=by kernel_rfl
 i37:=by kernel_rfl
 i46:=by kernel_rfl
 i51:=by kernel_rfl
 i53:=by kernel_rfl
 i171:=by kernel_rfl
 i173:=by kernel_rfl
 i212:=by kernel_rfl
 i232:=by kernel_rfl
 i233:=by kernel_rfl
 m17:=by kernel_rfl
 m18:=by kernel_rfl
 m19:=by kernel_rfl}
open Go.RowKit Go.Sort Go.Lib in
theorem Tryz.strconv_Itoa (n:Int)(h0: -9223372036854775808≤n)(h1:n≤9223372036854775807)(w:World)(htab:Lib.TabIs Tryz.prog w "internal/strconv.uint64pow10" .u64 Lib.pow10Tab):
  Calls Tryz.prog 31 #[.int .i64 n] w fun e w'=>e= .returned (.string ⟨(Lib.itoa n).toArray⟩)∧∃k os,w'=grow (w.drewN k) os:=Any.strconv_Itoa Tryz.laysM171 n h0 h1 w htab
def Tryz.Lc:Go.Shelf.Ren:=⟨fun|138=>36|195=>66|218=>67|143=>68|219=>106|217=>139|225=>140|224=>141|267=>142|266=>184|314=>185|n=>n,fun|9=>9|3=>3|4=>4|5=>5|0=>0|46=>97|146=>273|51=>131|n=>n,fun|1=>2|n=>n⟩
theorem Tryz.lays138:Go.Proofs.Lays.n138 Tryz.prog Tryz.Lc:={
 mixed:=by kernel_rfl
 f138:=Tryz.func36.trans (congrArg some (by kernel_rfl))
 f143:=Tryz.func68.trans (congrArg some (by kernel_rfl))
 f195:=Tryz.func66.trans (congrArg some (by kernel_rfl))
 f217:=Tryz.func139.trans (congrArg some (by kernel_rfl))
 f218:=Tryz.func67.trans (congrArg some (by kernel_rfl))
 f219:=Tryz.func106.trans (congrArg some (by kernel_rfl))
 f224:=Tryz.func141.trans (congrArg some (by kernel_rfl))
 f225:=Tryz.func140.trans (congrArg some (by kernel_rfl))
 f266:=Tryz.func184.trans (congrArg some (by kernel_rfl))
 f267:=Tryz.func142.trans (congrArg some (by kernel_rfl))
 f314:=Tryz.func185.trans (congrArg some (by kernel_rfl))
 t0:=Tryz.underlying0
 a0:=Tryz.isAgg0
 z0:=Tryz.sizeOf0
 v0:=Tryz.zeroValue0
 t3:=Tryz.underlying3
 a3:=Tryz.isAgg3
 z3:=Tryz.sizeOf3
 v3:=Tryz.zeroValue3
 t4:=Tryz.underlying4
 a4:=Tryz.isAgg4
 z4:=Tryz.sizeOf4
 v4:=Tryz.zeroValue4
 t5:=Tryz.underlying5
 a5:=Tryz.isAgg5
 z5:=Tryz.sizeOf5
 v5:=Tryz.zeroValue5
 t9:=Tryz.underlying9
 a9:=Tryz.isAgg9
 z9:=Tryz.sizeOf9
 v9:=Tryz.zeroValue9
 t46:=Tryz.underlying97
 a46:=Tryz.isAgg97
 z46:=Tryz.sizeOf97
 v46:=Tryz.zeroValue97
 t51:=Tryz.underlying131
 a51:=Tryz.isAgg131
 z51:=Tryz.sizeOf131
 v51:=Tryz.zeroValue131
 t146:=Tryz.underlying273
 a146:=Tryz.isAgg273
 z146:=Tryz.sizeOf273
 v146:=Tryz.zeroValue273
 g1:=by kernel_rfl}
open Go.RowKit Go.Lib in
theorem Tryz.strings_Count_one (s:ByteArray)(c:UInt8)(w:World):
  Calls Tryz.prog 36 #[.string s,.string ⟨#[c]⟩] w fun e w'=>e= .returned (.int .i64 (Lib.countByte s.data.toList c))∧w'=w:=Any.strings_Count_one Tryz.lays138 s c w
def Tryz.Le:Go.Shelf.Ren:=⟨fun|161=>188|231=>221|227=>222|233=>223|235=>224|228=>244|197=>149|151=>245|260=>198|152=>260|137=>220|119=>264|224=>141|225=>140|217=>139|266=>184|n=>n,fun|9=>9|4=>4|3=>3|5=>5|117=>306|116=>305|0=>0|124=>309|105=>223|21=>21|119=>253|46=>97|139=>314|138=>313|n=>n,fun|3=>4|4=>5|n=>n⟩
theorem Tryz.lays161:Go.Proofs.Lays.n161 Tryz.prog Tryz.Le:={
 mixed:=by kernel_rfl
 f119:=Tryz.func264.trans (congrArg some (by kernel_rfl))
 f137:=Tryz.func220.trans (congrArg some (by kernel_rfl))
 f151:=Tryz.func245.trans (congrArg some (by kernel_rfl))
 f152:=Tryz.func260.trans (congrArg some (by kernel_rfl))
 f161:=Tryz.func188.trans (congrArg some (by kernel_rfl))
 f197:=Tryz.func149.trans (congrArg some (by kernel_rfl))
 f217:=Tryz.func139.trans (congrArg some (by kernel_rfl))
 f224:=Tryz.func141.trans (congrArg some (by kernel_rfl))
 f225:=Tryz.func140.trans (congrArg some (by kernel_rfl))
 f227:=Tryz.func222.trans (congrArg some (by kernel_rfl))
 f228:=Tryz.func244.trans (congrArg some (by kernel_rfl))
 f231:=Tryz.func221.trans (congrArg some (by kernel_rfl))
 f233:=Tryz.func223.trans (congrArg some (by kernel_rfl))
 f235:=Tryz.func224.trans (congrArg some (by kernel_rfl))
 f260:=Tryz.func198.trans (congrArg some (by kernel_rfl))
 f266:=Tryz.func184.trans (congrArg some (by kernel_rfl))
 t0:=Tryz.underlying0
 a0:=Tryz.isAgg0
 z0:=Tryz.sizeOf0
 v0:=Tryz.zeroValue0
 t3:=Tryz.underlying3
 a3:=Tryz.isAgg3
 z3:=Tryz.sizeOf3
 v3:=Tryz.zeroValue3
 t4:=Tryz.underlying4
 a4:=Tryz.isAgg4
 z4:=Tryz.sizeOf4
 v4:=Tryz.zeroValue4
 t5:=Tryz.underlying5
 a5:=Tryz.isAgg5
 z5:=Tryz.sizeOf5
 v5:=Tryz.zeroValue5
 t9:=Tryz.underlying9
 a9:=Tryz.isAgg9
 z9:=Tryz.sizeOf9
 v9:=Tryz.zeroValue9
 t21:=Tryz.underlying21
 a21:=Tryz.isAgg21
 z21:=Tryz.sizeOf21
 v21:=Tryz.zeroValue21
 t46:=Tryz.underlying97
 a46:=Tryz.isAgg97
 z46:=Tryz.sizeOf97
 v46:=Tryz.zeroValue97
 t105:=Tryz.underlying223
 a105:=Tryz.isAgg223
 z105:=Tryz.sizeOf223
 v105:=Tryz.zeroValue223
 t116:=Tryz.underlying305
 a116:=Tryz.isAgg305
 z116:=Tryz.sizeOf305
 t117:=Tryz.underlying306
 a117:=Tryz.isAgg306
 z117:=Tryz.sizeOf306
 v117:=Tryz.zeroValue306
 t119:=Tryz.underlying253
 a119:=Tryz.isAgg253
 z119:=Tryz.sizeOf253
 t124:=Tryz.underlying309
 a124:=Tryz.isAgg309
 z124:=Tryz.sizeOf309
 v124:=Tryz.zeroValue309
 t138:=Tryz.underlying313
 a138:=Tryz.isAgg313
 z138:=Tryz.sizeOf313
 v138:=Tryz.zeroValue313
 t139:=Tryz.underlying314
 a139:=Tryz.isAgg314
 z139:=Tryz.sizeOf314
 v139:=Tryz.zeroValue314
 g3:=by kernel_rfl
 g4:=by kernel_rfl}
open Go.RowKit in
theorem Tryz.strings_TrimLeft_one (s:ByteArray)(c:UInt8)(hc:c.toNat<128)(w:World):
  Calls Tryz.prog 188 #[.string s,.string ⟨#[c]⟩] w fun e w'=>e= .returned (.string ⟨(Lib.trimLeftB s.data.toList c).toArray⟩)∧w'=w:=Any.strings_TrimLeft_one Tryz.lays161 s c hc w
def Tryz.La:Go.Shelf.Ren:=⟨fun|137=>220|217=>139|266=>184|n=>n,fun|9=>9|5=>5|3=>3|n=>n,fun|n=>n⟩
theorem Tryz.lays137:Go.Proofs.Lays.n137 Tryz.prog Tryz.La:={
 mixed:=by kernel_rfl
 f137:=Tryz.func220.trans (congrArg some (by kernel_rfl))
 f217:=Tryz.func139.trans (congrArg some (by kernel_rfl))
 f266:=Tryz.func184.trans (congrArg some (by kernel_rfl))
 t3:=Tryz.underlying3
 a3:=Tryz.isAgg3
 z3:=Tryz.sizeOf3
 v3:=Tryz.zeroValue3
 t5:=Tryz.underlying5
 a5:=Tryz.isAgg5
 z5:=Tryz.sizeOf5
 v5:=Tryz.zeroValue5
 t9:=Tryz.underlying9
 a9:=Tryz.isAgg9
 z9:=Tryz.sizeOf9
 v9:=Tryz.zeroValue9}
open Go.RowKit in
theorem Tryz.strings_IndexByte (s:ByteArray)(c:Int)(w:World):
  Calls Tryz.prog 220 #[.string s,.int .u8 c] w fun e w'=>e= .returned (.int .i64 (Lib.indexByte s.data.toList c.toNat.toUInt8))∧w'=w:=Any.strings_IndexByte Tryz.lays137 s c w
def Tryz.Ld:Go.Shelf.Ren:=⟨fun|145=>37|220=>69|219=>106|217=>139|225=>140|224=>141|267=>142|266=>184|314=>185|n=>n,fun|9=>9|4=>4|59=>73|3=>3|5=>5|46=>97|146=>273|51=>131|n=>n,fun|1=>2|n=>n⟩
theorem Tryz.lays145:Go.Proofs.Lays.n145 Tryz.prog Tryz.Ld:={
 mixed:=by kernel_rfl
 f145:=Tryz.func37.trans (congrArg some (by kernel_rfl))
 f217:=Tryz.func139.trans (congrArg some (by kernel_rfl))
 f219:=Tryz.func106.trans (congrArg some (by kernel_rfl))
 f220:=Tryz.func69.trans (congrArg some (by kernel_rfl))
 f224:=Tryz.func141.trans (congrArg some (by kernel_rfl))
 f225:=Tryz.func140.trans (congrArg some (by kernel_rfl))
 f266:=Tryz.func184.trans (congrArg some (by kernel_rfl))
 f267:=Tryz.func142.trans (congrArg some (by kernel_rfl))
 f314:=Tryz.func185.trans (congrArg some (by kernel_rfl))
 t3:=Tryz.underlying3
 a3:=Tryz.isAgg3
 z3:=Tryz.sizeOf3
 v3:=Tryz.zeroValue3
 t4:=Tryz.underlying4
 a4:=Tryz.isAgg4
 z4:=Tryz.sizeOf4
 v4:=Tryz.zeroValue4
 t5:=Tryz.underlying5
 a5:=Tryz.isAgg5
 z5:=Tryz.sizeOf5
 v5:=Tryz.zeroValue5
 t9:=Tryz.underlying9
 a9:=Tryz.isAgg9
 z9:=Tryz.sizeOf9
 v9:=Tryz.zeroValue9
 t46:=Tryz.underlying97
 a46:=Tryz.isAgg97
 z46:=Tryz.sizeOf97
 v46:=Tryz.zeroValue97
 t51:=Tryz.underlying131
 a51:=Tryz.isAgg131
 z51:=Tryz.sizeOf131
 v51:=Tryz.zeroValue131
 t59:=Tryz.underlying73
 a59:=Tryz.isAgg73
 z59:=Tryz.sizeOf73
 v59:=Tryz.zeroValue73
 t146:=Tryz.underlying273
 a146:=Tryz.isAgg273
 z146:=Tryz.sizeOf273
 v146:=Tryz.zeroValue273
 g1:=by kernel_rfl}
open Go.RowKit Go.Lib in
theorem Tryz.strings_Cut (s sep:ByteArray)(m:Int)(w:World)(hs:s.size<4294967281)(hm:w.cell? ⟨2,0,none⟩=some (.int .i64 m)):
  Calls Tryz.prog 37 #[.string s,.string sep] w fun e w'=>e= .returned (.tuple #[.string ⟨(Lib.cut s.data.toList sep.data.toList).1.toArray⟩,.string ⟨(Lib.cut s.data.toList sep.data.toList).2.1.toArray⟩,.bool (Lib.cut s.data.toList sep.data.toList).2.2])∧∃n,w'=w.drewN n:=Any.strings_Cut Tryz.lays145 s sep m w hs hm
def Tryz.lays101_ren:Go.Shelf.Ren:=⟨fun|101=>197|208=>230|206=>233|n=>n,fun|9=>9|4=>4|3=>3|n=>n,fun|n=>n⟩
theorem Tryz.lays101:Go.Proofs.Lays.n101 Tryz.prog Tryz.lays101_ren:={
 mixed:=by kernel_rfl
 f101:=Tryz.func197.trans (congrArg some (by kernel_rfl))
 f206:=Tryz.func233.trans (congrArg some (by kernel_rfl))
 f208:=Tryz.func230.trans (congrArg some (by kernel_rfl))
 t3:=Tryz.underlying3
 a3:=Tryz.isAgg3
 z3:=Tryz.sizeOf3
 v3:=Tryz.zeroValue3
 t4:=Tryz.underlying4
 a4:=Tryz.isAgg4
 z4:=Tryz.sizeOf4
 v4:=Tryz.zeroValue4
 t9:=Tryz.underlying9
 a9:=Tryz.isAgg9
 z9:=Tryz.sizeOf9
 v9:=Tryz.zeroValue9}
open Go.RowKit Go.Lib in
theorem Tryz.strings_TrimPrefix (s p:ByteArray)(w:World):
  Calls Tryz.prog 197 #[.string s,.string p] w fun e w'=>e= .returned (.string ⟨(Lib.trimPrefix s.data.toList p.data.toList).toArray⟩)∧w'=w:=Any.strings_TrimPrefix Tryz.lays101 s p w
def Tryz.lays146_ren:Go.Shelf.Ren:=⟨fun|146=>39|221=>75|268=>109|138=>36|143=>68|195=>66|197=>149|218=>67|219=>106|260=>198|217=>139|225=>140|224=>141|267=>142|266=>184|314=>185|n=>n,fun|9=>9|31=>30|3=>3|4=>4|0=>0|105=>223|21=>21|5=>5|46=>97|119=>253|139=>314|138=>313|146=>273|51=>131|n=>n,fun|1=>2|3=>4|4=>5|n=>n⟩
theorem Tryz.lays146:Go.Proofs.Lays.n146 Tryz.prog Tryz.lays146_ren:={
 mixed:=by kernel_rfl
 f138:=Tryz.func36.trans (congrArg some (by kernel_rfl))
 f143:=Tryz.func68.trans (congrArg some (by kernel_rfl))
 f146:=Tryz.func39.trans (congrArg some (by kernel_rfl))
 f195:=Tryz.func66.trans (congrArg some (by kernel_rfl))
 f197:=Tryz.func149.trans (congrArg some (by kernel_rfl))
 f217:=Tryz.func139.trans (congrArg some (by kernel_rfl))
 f218:=Tryz.func67.trans (congrArg some (by kernel_rfl))
 f219:=Tryz.func106.trans (congrArg some (by kernel_rfl))
 f221:=Tryz.func75.trans (congrArg some (by kernel_rfl))
 f224:=Tryz.func141.trans (congrArg some (by kernel_rfl))
 f225:=Tryz.func140.trans (congrArg some (by kernel_rfl))
 f260:=Tryz.func198.trans (congrArg some (by kernel_rfl))
 f266:=Tryz.func184.trans (congrArg some (by kernel_rfl))
 f267:=Tryz.func142.trans (congrArg some (by kernel_rfl))
 f268:=Tryz.func109.trans (congrArg some (by kernel_rfl))
 f314:=Tryz.func185.trans (congrArg some (by kernel_rfl))
 t0:=Tryz.underlying0
 a0:=Tryz.isAgg0
 z0:=Tryz.sizeOf0
 v0:=Tryz.zeroValue0
 t3:=Tryz.underlying3
 a3:=Tryz.isAgg3
 z3:=Tryz.sizeOf3
 v3:=Tryz.zeroValue3
 t4:=Tryz.underlying4
 a4:=Tryz.isAgg4
 z4:=Tryz.sizeOf4
 v4:=Tryz.zeroValue4
 t5:=Tryz.underlying5
 a5:=Tryz.isAgg5
 z5:=Tryz.sizeOf5
 v5:=Tryz.zeroValue5
 t9:=Tryz.underlying9
 a9:=Tryz.isAgg9
 z9:=Tryz.sizeOf9
 v9:=Tryz.zeroValue9
 t21:=Tryz.underlying21
 a21:=Tryz.isAgg21
 z21:=Tryz.sizeOf21
 v21:=Tryz.zeroValue21
 t31:=Tryz.underlying30
 a31:=Tryz.isAgg30
 z31:=Tryz.sizeOf30
 v31:=Tryz.zeroValue30
 t46:=Tryz.underlying97
 a46:=Tryz.isAgg97
 z46:=Tryz.sizeOf97
 v46:=Tryz.zeroValue97
 t51:=Tryz.underlying131
 a51:=Tryz.isAgg131
 z51:=Tryz.sizeOf131
 v51:=Tryz.zeroValue131
 t105:=Tryz.underlying223
 a105:=Tryz.isAgg223
 z105:=Tryz.sizeOf223
 v105:=Tryz.zeroValue223
 t119:=Tryz.underlying253
 a119:=Tryz.isAgg253
 z119:=Tryz.sizeOf253
 t138:=Tryz.underlying313
 a138:=Tryz.isAgg313
 z138:=Tryz.sizeOf313
 v138:=Tryz.zeroValue313
 t139:=Tryz.underlying314
 a139:=Tryz.isAgg314
 z139:=Tryz.sizeOf314
 v139:=Tryz.zeroValue314
 t146:=Tryz.underlying273
 a146:=Tryz.isAgg273
 z146:=Tryz.sizeOf273
 v146:=Tryz.zeroValue273
 g1:=by kernel_rfl
 g3:=by kernel_rfl
 g4:=by kernel_rfl}
open Go.RowKit Go.Lib in
theorem Tryz.strings_Split (s sep:ByteArray)(m:Int)(w:World)(hs:s.size<4294967281)(hm:w.cell? ⟨2,0,none⟩=some (.int .i64 m))(h1:1≤sep.size):
  Calls Tryz.prog 39 #[.string s,.string sep] w fun e w'=>
   e= .returned (.slice (some ⟨w.heap.size,0,none⟩) (Lib.countB s sep+1) (Lib.countB s sep+1))∧w'=w.alloc (.cells ((Lib.splitB sep 0 (Lib.countB s sep) s).map Value.string).toArray 9):=Any.strings_Split Tryz.lays146 (by kernel_rfl) s sep m w hs hm h1
def Tryz.EY:Go.Shelf.Ren:=⟨fun|16=>73|n=>n,fun|24=>30|9=>9|4=>4|n=>n,fun|n=>n⟩
theorem Tryz.laysNm216:Go.Proofs.Lays2.n16 Tryz.prog Tryz.EY:={
 mixed:=by kernel_rfl
 f16:=Tryz.func73.trans (congrArg some (by kernel_rfl))
 t4:=Tryz.underlying4
 a4:=Tryz.isAgg4
 z4:=Tryz.sizeOf4
 v4:=Tryz.zeroValue4
 t9:=Tryz.underlying9
 a9:=Tryz.isAgg9
 z9:=Tryz.sizeOf9
 v9:=Tryz.zeroValue9
 t24:=Tryz.underlying30
 a24:=Tryz.isAgg30
 z24:=Tryz.sizeOf30
 v24:=Tryz.zeroValue30
 i9:=by kernel_rfl}
open Go.RowKit Go.Lib in
theorem Tryz.slices_Clone_string (b off n c:Nat)(zs:List ByteArray)(w:World)(hz:n≤zs.length)(hbig:n*16≤140737488355328)(hc:∀j,j<zs.length→w.cell? ⟨b,off+j,none⟩=some (.string (zs.getD j ByteArray.empty))):
  Calls Tryz.prog 73 #[.slice (some ⟨b,off,none⟩) n c] w fun e w'=>∃v',e= .returned v'∧w'.ownsRow w.heap.size 9 1 v' n ((zs.take n).map (Value.string))∧v'≠ .slice none 0 0∧Below w.heap.size w w':=Any.slices_Clone_string Tryz.laysNm216 b off n c zs w hz hbig hc
end Go.Proofs
