/- Part 20 of the proof. -/
import Derived.Test.YthbdjmopolpjmaaGreatDoorR19
set_option linter.unusedVariables false
set_option linter.unusedSimpArgs false
set_option maxHeartbeats 8000000
set_option maxRecDepth 100000
namespace Go.Proofs.YthbdjmopolpjmaaGreatDoor.C
open Go.RowKit Go.Proofs.YthbdjmopolpjmaaGreatDoorW.PrintWords Go.Proofs.YthbdjmopolpjmaaGreatDoorW.PrintLast Go.Proofs.YthbdjmopolpjmaaGreatDoorW.PrintMore Go.Proofs.YthbdjmopolpjmaaGreatDoor.F Go.Proofs.YthbdjmopolpjmaaGreatDoor.M
attribute [local go_sem] max2_int min2_int max_two min_two max_three min_three max_four min_four
def EW (x:iU)(v8:Value):Value:= .agg #[.int .i64 x.f0,.string x.f1,.string x.f2.f0,.string x.f2.f1,.string x.f3.f0,.string x.f3.f1,.string x.f4,.int .i64 x.f5,v8,.int .i64 x.f7,.bool x.f8]
def zE:iU:=⟨0,⟨#[]⟩,⟨⟨#[]⟩,⟨#[]⟩⟩,⟨⟨#[]⟩,⟨#[]⟩⟩,⟨#[]⟩,0,[],0,false⟩
theorem fC {W:World}{b:Nat}{cs:Array Value}{t:TypeId}(h:W.heap[b]?=some (.cells cs t (0,0))):
  W.frozen? ⟨b,0,none⟩=false∧W.frozen? ⟨b,1,none⟩=false∧W.frozen? ⟨b,2,none⟩=false∧W.frozen? ⟨b,3,none⟩=false∧W.frozen? ⟨b,4,none⟩=false∧W.frozen? ⟨b,5,none⟩=false∧W.frozen? ⟨b,6,none⟩=false∧W.frozen? ⟨b,7,none⟩=false∧W.frozen? ⟨b,8,none⟩=false∧W.frozen? ⟨b,9,none⟩=false∧W.frozen? ⟨b,10,none⟩=false:=
 ⟨au h 0,au h 1,au h 2,au h 3,au h 4,au h 5,au h 6,au h 7,au h 8,au h 9,au h 10⟩
theorem tN {W:World}{b:Nat}{u0 u1 u2 u3 u4 u5 u6 u7 u8 u9 u10:Value}(h:W.heap[b]?=some (.cells #[u0,u1,u2,u3,u4,u5,u6,u7,u8,u9,u10] 41 (0,0)))(v0 v1 v2 v3 v4 v5 v6 v7 v8 v9 v10:Value):
  (((((((((((W.setCell ⟨b,0,none⟩ v0).setCell ⟨b,1,none⟩ v1).setCell ⟨b,2,none⟩ v2).setCell ⟨b,3,none⟩ v3).setCell ⟨b,4,none⟩ v4).setCell ⟨b,5,none⟩ v5).setCell ⟨b,6,none⟩ v6).setCell ⟨b,7,none⟩ v7).setCell ⟨b,8,none⟩ v8).setCell ⟨b,9,none⟩ v9).setCell ⟨b,10,none⟩ v10).heap[b]?=some (.cells #[v0,v1,v2,v3,v4,v5,v6,v7,v8,v9,v10] 41 (0,0)):=by
 have h:=aN (aN (aN (aN (aN (aN (aN (aN (aN (aN (aN h 0 v0) 1 v1) 2 v2) 3 v3) 4 v4) 5 v5) 6 v6) 7 v7) 8 v8) 9 v9) 10 v10;simpa using h
theorem kN {B:Nat}{w W:World}(h:Below B w W){b:Nat}(hb:B≤b)(v0 v1 v2 v3 v4 v5 v6 v7 v8 v9 v10:Value):
  Below B w (((((((((((W.setCell ⟨b,0,none⟩ v0).setCell ⟨b,1,none⟩ v1).setCell ⟨b,2,none⟩ v2).setCell ⟨b,3,none⟩ v3).setCell ⟨b,4,none⟩ v4).setCell ⟨b,5,none⟩ v5).setCell ⟨b,6,none⟩ v6).setCell ⟨b,7,none⟩ v7).setCell ⟨b,8,none⟩ v8).setCell ⟨b,9,none⟩ v9).setCell ⟨b,10,none⟩ v10):=
 ((((((((((h.setCell hb _).setCell hb _).setCell hb _).setCell hb _).setCell hb _).setCell hb _).setCell hb _).setCell hb _).setCell hb _).setCell hb _).setCell hb _
theorem Ky (W:World){b k:Nat}(hk:k≠b)(v0 v1 v2 v3 v4 v5 v6 v7 v8 v9 v10:Value):
  (((((((((((W.setCell ⟨b,0,none⟩ v0).setCell ⟨b,1,none⟩ v1).setCell ⟨b,2,none⟩ v2).setCell ⟨b,3,none⟩ v3).setCell ⟨b,4,none⟩ v4).setCell ⟨b,5,none⟩ v5).setCell ⟨b,6,none⟩ v6).setCell ⟨b,7,none⟩ v7).setCell ⟨b,8,none⟩ v8).setCell ⟨b,9,none⟩ v9).setCell ⟨b,10,none⟩ v10).heap[k]?=W.heap[k]?:=by
 have e:∀(X:World) (j:Nat) (v:Value),(X.setCell ⟨b,j,none⟩ v).heap[k]?=X.heap[k]?:=fun X j v=>Below.heap_setCell X ⟨b,j,none⟩ v k hk
 rw[e,e,e,e,e,e,e,e,e,e,e]
theorem agN (W:World){b k:Nat}(hk:k≠b)(v2 v3 v4 v5:Value):
  ((((W.setCell ⟨b,2,none⟩ v2).setCell ⟨b,3,none⟩ v3).setCell ⟨b,4,none⟩ v4).setCell ⟨b,5,none⟩ v5).heap[k]?=W.heap[k]?:=by
 have e:∀(X:World) (j:Nat) (v:Value),(X.setCell ⟨b,j,none⟩ v).heap[k]?=X.heap[k]?:=fun X j v=>Below.heap_setCell X ⟨b,j,none⟩ v k hk
 rw[e,e,e,e]
theorem amv {W:World}{b:Nat}{u0 u1 u2 u3 u4 u5 u6 u7 u8 u9 u10:Value}(h:W.heap[b]?=some (.cells #[u0,u1,u2,u3,u4,u5,u6,u7,u8,u9,u10] 41 (0,0)))(v2 v3 v4 v5:Value):
  ((((W.setCell ⟨b,2,none⟩ v2).setCell ⟨b,3,none⟩ v3).setCell ⟨b,4,none⟩ v4).setCell ⟨b,5,none⟩ v5).heap[b]?=some (.cells #[u0,u1,v2,v3,v4,v5,u6,u7,u8,u9,u10] 41 (0,0)):=by
 have h:=aN (aN (aN (aN h 2 v2) 3 v3) 4 v4) 5 v5;simpa using h
theorem uG (s:ByteArray)(w:World)(hs:s.size≤1000000):Calls Tryz.prog 76 #[.string s] w fun e w'=>∃v b,e= .returned (.tuple #[.int .i64 v,.bool b])∧(b=true↔Canon s)∧(Canon s→v=mn (dv s) 1000001)∧Below w.heap.size w w':=by
 obtain⟨v,b,he,h1,h2⟩:=I4 s hs;obtain⟨k,hk⟩:=he.rounds;exact(aQ.calls k s v b w hk).mono fun e w' h=>⟨v,b,h.1,h1,h2,h.2.below⟩
theorem OZ (s:ByteArray)(w:World)(hs:s.size≤1000000):Calls Tryz.prog 77 #[.string s] w fun e w'=>e= .returned (.tuple #[.string (oM s).1,.bool (oM s).2])∧Below w.heap.size w w':=by
 obtain⟨k,hk⟩:=(LH s hs).rounds;exact bC.calls k s (oM s).1 (oM s).2 w hk
theorem JW (c:UInt8)(s:ByteArray)(w:World)(hs:s.size≤1000000):Calls Tryz.prog 40 #[.string s,.int .u8 (c.toNat:Int)] w fun e w'=>∃A n,e= .returned (.slice A (eF c s).length n)∧Kd.string.R 9 w' w.heap.size (fun _=>True) (.slice A (eF c s).length n) (eF c s)∧(eF c s).length≤n∧Kd.string.C w' A (eF c s).length (eF c s)∧Below w.heap.size w w':=by
 obtain⟨k,hk⟩:=(Rk s hs c).rounds;refine(bJ.calls k s (c.toNat:Int) (eF c s) w hk).mono fun e w' ⟨v,h1,h2,h3⟩=>?_
 obtain⟨A,n,rfl,h4,h5⟩:=Kd.jE h2;exact⟨A,n,h1,h2,h4,h5,h3⟩
theorem Ep {w:World}{A:Option Addr}{ps:List ByteArray}(h:Kd.string.C w A ps.length ps)(h0:0<ps.length):∃ad,A=some ad∧∀W,Below w.heap.size w W→∀i,i<ps.length→W.cell? (ad.add i)=some (.string (pt ps i)):=by
 obtain⟨ad,e,_⟩:=Kd.jI h 0 (by omega) (by omega);refine⟨ad,e,fun W hW i hi=>?_⟩;obtain⟨ad2,e2,hc⟩:=Kd.jI h (i:Int) (by omega) (by omega);rw[e]at e2;injection e2 with e2;subst e2;have hc2:w.cell? (ad.add i)=some (.string (pt ps i)):=hc;exact aI hW hc2
theorem add_pos (a:Addr)(n:Nat)(h:0<n):a.add n=⟨a.block,a.off+n,none⟩:=by
 unfold Addr.add;rw[if_neg (by omega)]
theorem DC (a:Addr):a.add 0=a:=by cases a;simp[Addr.add]
def wh (ps:List ByteArray)(i:Nat):ByteArray:=if 4<i then(oM (pt ps 4)).1 else⟨#[]⟩
def un (ps:List ByteArray)(i:Nat):ByteArray:=if 7<i then(oM (pt ps 7)).1 else⟨#[]⟩
def tg (ps:List ByteArray)(i:Nat):List ByteArray:=((ps.take i).drop 8).map (fun t=>(oM t).1)
theorem Jr {ps:List ByteArray}{i:Nat}(h:i≠4):wh ps (i+1)=wh ps i:=by
 unfold wh
 by_cases h2:4<i
 ·rw[if_pos h2,if_pos (by omega)]
 ·rw[if_neg h2,if_neg (by omega)]
theorem Jq {ps:List ByteArray}{i:Nat}(h:i≠7):un ps (i+1)=un ps i:=by
 unfold un
 by_cases h2:7<i
 ·rw[if_pos h2,if_pos (by omega)]
 ·rw[if_neg h2,if_neg (by omega)]
theorem QK {ps:List ByteArray}{i:Nat}(h:i≤7):tg ps (i+1)=tg ps i:=by
 unfold tg;rw[List.drop_of_length_le (by rw[List.length_take];omega),List.drop_of_length_le (by rw[List.length_take];omega)]
theorem aaw {ps:List ByteArray}{i:Nat}(h:7<i)(hi:i<ps.length):tg ps (i+1)=tg ps i++[(oM (pt ps i)).1]:=by
 unfold tg;rw[List.take_succ_eq_append_getElem hi,List.drop_append_of_le_length (by rw[List.length_take];omega),List.map_append,uJ hi];rfl
theorem ae8 {ps:List ByteArray}(i:Nat):(tg ps i).length≤ps.length:=by
 unfold tg;rw[List.length_map,List.length_drop,List.length_take];omega
def EB (W:World)(b:Nat)(n0 n1 n2:Int)(sg:Bool)(ps:List ByteArray)(i:Nat)(v8:Value):Prop:=W.heap[b]?=some (.cells #[.int .i64 n0,.string (wh ps i),.string ⟨#[]⟩,.string ⟨#[]⟩,.string ⟨#[]⟩,.string ⟨#[]⟩,.string (un ps i),.int .i64 n2,v8,.int .i64 n1,.bool sg] 41 (0,0))
def nG (w w5:World)(xb:Nat)(n0 n1 n2:Int)(sg:Bool)(ps:List ByteArray)(i:Nat)(v8:Value)(W:World):Prop:=
 4≤i∧i≤ps.length∧(∀j,4≤j→j<i→j≠5→j≠6→(oM (pt ps j)).2=true)∧EB W xb n0 n1 n2 sg ps i v8∧Kd.string.R 9 W w5.heap.size (fun _=>True) v8 (tg ps i)∧Below w5.heap.size w5 W
theorem ZX {w w5 W W2:World}{xb:Nat}{n0 n1 n2:Int}{sg:Bool}{ps:List ByteArray}{i:Nat}{v8:Value}(h:nG w w5 xb n0 n1 n2 sg ps i v8 W)(hi:i<ps.length)(hb:Below W.heap.size W W2)(ho:i=5∨i=6):nG w w5 xb n0 n1 n2 sg ps (i+1) v8 W2:=by
 obtain⟨h1,h2,h3,h4,h5,h6⟩:=h;refine⟨by omega,by omega,fun j k1 k2 k3 k4=>h3 j k1 (by omega) k3 k4,?_,?_,ah h6 h6.size hb⟩
 ·unfold EB;rw[Jr (by omega),Jq (by omega)];exact aT h4 hb
 ·rw[QK (by omega)];exact Kd.dK h5 hb
theorem KT {w w5 W W2:World}{xb:Nat}{n0 n1 n2:Int}{sg:Bool}{ps:List ByteArray}{i:Nat}{v8:Value}(h:nG w w5 xb n0 n1 n2 sg ps i v8 W)(hi:i<ps.length)(hb:Below W.heap.size W W2)(hx:w5.heap.size≤xb)(hok:(oM (pt ps i)).2=true){j:Nat}(ho:(i=4∧j=1)∨(i=7∧j=6)):nG w w5 xb n0 n1 n2 sg ps (i+1) v8 (W2.setCell ⟨xb,j,none⟩ (.string (oM (pt ps i)).1)):=by
 obtain⟨h1,h2,h3,h4,h5,h6⟩:=h;have h7:=aN (aT h4 hb) j (.string (oM (pt ps i)).1);refine⟨by omega,by omega,fun k k1 k2 k3 k4=>?_,?_,?_,(ah h6 h6.size hb).setCell (p:=⟨xb,j,none⟩) hx _⟩
 ·by_cases hk:k=i
  ·rw[hk];exact hok
  ·exact h3 k k1 (by omega) k3 k4
 ·unfold EB;rw[h7];rcases ho with⟨rfl,rfl⟩|⟨rfl,rfl⟩
  ·rw[Jq (by omega),show wh ps (4+1)=(oM (pt ps 4)).1 from if_pos (by omega)];rfl
  ·rw[Jr (by omega),show un ps (7+1)=(oM (pt ps 7)).1 from if_pos (by omega)];rfl
 ·rw[QK (by omega)];exact Kd.Dy (Kd.dK h5 hb) (aT h4 hb) (by simp[Kd.string,Kd.scalar]) j _
theorem adk {w w5 W W3:World}{xb:Nat}{n0 n1 n2:Int}{sg:Bool}{ps:List ByteArray}{i:Nat}{v8 v9:Value}(h:nG w w5 xb n0 n1 n2 sg ps i v8 W)(hi:i<ps.length)(h7:7<i)(hx:w5.heap.size≤xb)(hok:(oM (pt ps i)).2=true)(hb:Below w5.heap.size w5 W3)(hE:W3.heap[xb]?=W.heap[xb]?)
  (hR:Kd.string.R 9 W3 w5.heap.size (fun _=>True) v9 (tg ps i++[(oM (pt ps i)).1])):nG w w5 xb n0 n1 n2 sg ps (i+1) v9 (W3.setCell ⟨xb,8,none⟩ v9):=by
 obtain⟨h1,h2,h3,h4,h5,h6⟩:=h;have h4':W3.heap[xb]?=_:=hE.trans h4;have h8:=aN h4' 8 v9;refine⟨by omega,by omega,fun k k1 k2 k3 k4=>?_,?_,?_,hb.setCell (p:=⟨xb,8,none⟩) hx _⟩
 ·by_cases hk:k=i
  ·rw[hk];exact hok
  ·exact h3 k k1 (by omega) k3 k4
 ·unfold EB;rw[Jr (by omega),Jq (by omega),h8];rfl
 ·rw[aaw h7 hi];exact Kd.Dy hR h4' (by simp[Kd.string,Kd.scalar]) 8 _
theorem ZW {w w5 W:World}{xb:Nat}{n0 n1 n2:Int}{sg:Bool}{ps:List ByteArray}{i:Nat}{v8:Value}(h:nG w w5 xb n0 n1 n2 sg ps i v8 W)(hi:i<ps.length)(h5:i≠5)(h6:i≠6)(hok:(oM (pt ps i)).2=false):¬rJ ps:=fun hl=>by
 have:=hl.opn i h.1 hi h5 h6;rw[hok]at this;cases this
theorem Ff (s:ByteArray)(w:World)(hs:s.size≤65536):
  Calls Tryz.prog 41 #[.string s] w fun e w'=>∃x v8 er,e= .returned (.tuple #[EW x v8,.int .i64 er])∧oO (eF 9 s) er x∧Kd.string.R 9 w' w.heap.size (fun _=>True) v8 x.f6∧Below w.heap.size w w':=by
 obtain⟨eb,heb⟩:∃eb,w.heap.size=eb:=⟨_,rfl⟩;obtain⟨w0,hw0⟩:∃w0,w.alloc (.cells #[.int .i64 0,.string ⟨#[]⟩,.string ⟨#[]⟩,.string ⟨#[]⟩,.string ⟨#[]⟩,.string ⟨#[]⟩,.string ⟨#[]⟩,.int .i64 0,.slice none 0 0,.int .i64 0,.bool false] 41)=w0:=⟨_,rfl⟩;have hB0:Below w.heap.size w w0:=by rw[←hw0];exact ag (Below.refl _ _) _
 have hE0:w0.heap[eb]?=some (.cells #[.int .i64 0,.string ⟨#[]⟩,.string ⟨#[]⟩,.string ⟨#[]⟩,.string ⟨#[]⟩,.string ⟨#[]⟩,.string ⟨#[]⟩,.int .i64 0,.slice none 0 0,.int .i64 0,.bool false] 41 (0,0)):=by rw[←hw0,←heb];exact bZ w _
 have HS:=zM (qC 9 s);have hpl:=kZ 9 s;have hpc:Lib.countByte s.data.toList 9≤s.size:=by rw[←bV];exact List.count_le_length
 have HSS:=zM (zA hs (show(eF 9 s).length≤65537 by omega));have HB0:=zM (zA hB0 hE0);have yf:=zM heb;clear hB0 hE0 hs hpl hpc;obtain⟨ps,hps⟩:∃ps,eF 9 s=ps:=⟨_,rfl⟩;rw[hps]at HS HSS⊢;go_enter Tryz.func41,Tryz.ntmps41;go_wp2_with fail;refine(JW 9 s _ (by have:=HSS.out.1;omega)).mono ?_;rw[hps];have hsz:∀i,i<ps.length→(pt ps i).size≤65536:=fun i hi=>Nat.le_trans (HS.out _ (xP hi)) HSS.out.1
 have YJ:=zM hsz;obtain⟨N,hN⟩:∃N,ps.length=N:=⟨_,rfl⟩;have HN:=zM hN;rw[hN];rintro e w1 ⟨A,cp,rfl,h1,h2,h3,h4⟩;rw[←hN]at h3;have H1:=zM (zA (aT HB0.out.2 h4) (zA (ah HB0.out.1 HB0.out.1.size h4) h3));clear h1 h3 h4 hps hN hsz hw0 heb;obtain⟨vk,vw,vz,vC,vF,vG,vH,Bh,Bi,Bj,nR⟩:=eleven (H1.out.1);obtain⟨pq,pz,pG,pI,pJ,pK,pM,xA,xB,xC,pF⟩:=fC (H1.out.1)
 by_cases h8:N<8
 ·have q1:=zT h8;have q2:decide ((N:Int)<8)=true:=decide_eq_true (by omega);have H8:=zM h8;clear h8 h2;go_wp2_with fail;refine bodyPost_ret (dw rfl _ _ eb 41 #[.int .i64 0,.string ⟨#[]⟩,.string ⟨#[]⟩,.string ⟨#[]⟩,.string ⟨#[]⟩,.string ⟨#[]⟩,.string ⟨#[]⟩,.int .i64 0,.slice none 0 0,.int .i64 0,.bool false] (0,0) _ rfl (tN (H1.out.1) _ _ _ _ _ _ _ _ _ _ _) Tryz.underlying41 rfl (by kernel_rfl)) rfl ?_;exact⟨zE,.slice none 0 0,170,rfl,.inl ⟨fun h=>absurd h.len (by have:=H8.out;have:=HN.out;omega),rfl⟩,Kd.jB _ _ _ _ _,kN (H1.out.2.1) (Nat.le_of_eq yf.out) _ _ _ _ _ _ _ _ _ _ _⟩
 ·have q1:=zF h8;have q2:decide ((N:Int)<8)=false:=decide_eq_false (by omega);obtain⟨ad,rfl,hc⟩:=Ep H1.out.2.2 (by have:=HN.out;omega);have HC:=zM hc;have H8:=zM (zA (show 8≤N by omega) h2);have c0:w1.cell? ad=some (.string (pt ps 0)):=by have h:=hc w1 (Below.refl _ _) 0 (by have:=HN.out;omega);rwa [DC]at h
  have c1:w1.cell? ⟨ad.block,ad.off+1,none⟩=some (.string (pt ps 1)):=by have h:=hc w1 (Below.refl _ _) 1 (by have:=HN.out;omega);rwa [add_pos ad 1 (by omega)]at h
  have c2:w1.cell? ⟨ad.block,ad.off+2,none⟩=some (.string (pt ps 2)):=by have h:=hc w1 (Below.refl _ _) 2 (by have:=HN.out;omega);rwa [add_pos ad 2 (by omega)]at h
  have c3:w1.cell? ⟨ad.block,ad.off+3,none⟩=some (.string (pt ps 3)):=by have h:=hc w1 (Below.refl _ _) 3 (by have:=HN.out;omega);rwa [add_pos ad 3 (by omega)]at h
  have k0:=eq_true (show 0<N by omega);have k1:=eq_true (show 1<N by omega);have k2:=eq_true (show 2<N by omega);have k3:=eq_true (show 3<N by omega);have i0:=eq_true (show(0:Int)<(N:Int)by omega);have i1:=eq_true (show(1:Int)<(N:Int)by omega);have i2:=eq_true (show(2:Int)<(N:Int)by omega);have i3:=eq_true (show(3:Int)<(N:Int)by omega);clear hc h2 h8;go_wp2_with fail;refine(uG (pt ps 0) _ (by have:=YJ.out 0 (by have:=HN.out;have:=H8.out.1;omega);omega)).mono ?_;rintro e w2 ⟨n0,b0,rfl,h1,h2,h3⟩;have c1:=cell_later h3 c1;have c2:=cell_later h3 c2;have c3:=cell_later h3 c3;have H2:=zM (zA (aT H1.out.1 h3) (zA (ah H1.out.2.1 H1.out.2.1.size h3) (zA h3 (zA h1 h2))));clear h1 h2 h3 c0;clear vk vw vz vC vF vG vH Bh Bi Bj nR pq pz pG pI pJ pK pM xA xB xC pF;go_wp2_with fail;refine(uG (pt ps 1) _ (by have:=YJ.out 1 (by have:=HN.out;have:=H8.out.1;omega);omega)).mono ?_;rintro e w3 ⟨n1,b1,rfl,h1,h2,h3⟩;have c2:=cell_later h3 c2;have c3:=cell_later h3 c3;have H3:=zM (zA (aT H2.out.1 h3) (zA (ah H2.out.2.1 H2.out.2.1.size h3) (zA (ah H2.out.2.2.1 H2.out.2.2.1.size h3) (zA h1 h2))));clear h1 h2 h3 c1;go_wp2_with fail;refine(uG (pt ps 2) _ (by have:=YJ.out 2 (by have:=HN.out;have:=H8.out.1;omega);omega)).mono ?_;rintro e w4 ⟨n2,b2,rfl,h1,h2,h3⟩;have c3:=cell_later h3 c3;have H4:=zM (zA (aT H3.out.1 h3) (zA (ah H3.out.2.1 H3.out.2.1.size h3) (zA (ah H3.out.2.2.1 H3.out.2.2.1.size h3) (zA h1 h2))));clear h1 h2 h3 c2;obtain⟨vk,vw,vz,vC,vF,vG,vH,Bh,Bi,Bj,nR⟩:=eleven (H4.out.1);obtain⟨pq,pz,pG,pI,pJ,pK,pM,xA,xB,xC,pF⟩:=fC (H4.out.1);obtain⟨sp,hsp⟩:∃b,((pt ps 3).toList==[43])=b:=⟨_,rfl⟩;obtain⟨sg,hsg⟩:∃b,((pt ps 3).toList==[120])=b:=⟨_,rfl⟩;have Um:=zM (zA hsp hsg);obtain⟨ok,hok⟩:∃ok,(b0&&b1&&b2&&(sp||sg))=ok:=⟨_,rfl⟩;go_upto_region 7 with(fail);go_cut [66] (fun v66 wc=>v66= .bool (!ok)∧wc=w4)
  case first=>
   subst hok;cases b0 with
   |false=>
    go_wp2_with fail;go_meet
    case rel=>exact⟨rfl,rfl⟩
   |true=>
    cases b1 with
    |false=>
     go_wp2_with fail;go_meet
     case rel=>exact⟨rfl,rfl⟩
    |true=>
     cases b2 with
     |false=>
      go_wp2_with fail;go_meet
      case rel=>exact⟨rfl,rfl⟩
     |true=>
      cases sp with
      |true=>
       go_wp2_with fail;go_meet
       case rel=>exact⟨rfl,rfl⟩
      |false=>
       cases sg with
       |true=>
        go_wp2_with fail;go_meet
        case rel=>exact⟨rfl,rfl⟩
       |false=>
        go_wp2_with fail;go_meet
        case rel=>exact⟨rfl,rfl⟩
  case rest=>
   obtain⟨rfl,rfl⟩:=hcut;cases ok with
   |false=>
    have HBAD:=zM hok;clear hok;go_wp2_with fail;refine bodyPost_ret (dw rfl _ _ eb 41 #[.int .i64 0,.string ⟨#[]⟩,.string ⟨#[]⟩,.string ⟨#[]⟩,.string ⟨#[]⟩,.string ⟨#[]⟩,.string ⟨#[]⟩,.int .i64 0,.slice none 0 0,.int .i64 0,.bool false] (0,0) _ rfl (tN (H4.out.1) _ _ _ _ _ _ _ _ _ _ _) Tryz.underlying41 rfl (by kernel_rfl)) rfl ?_;exact⟨zE,.slice none 0 0,170,rfl,.inl ⟨fun h=>absurd (((Bool.and_eq_true _ _).mpr ⟨(Bool.and_eq_true _ _).mpr ⟨(Bool.and_eq_true _ _).mpr ⟨H2.out.2.2.2.1.2 h.c0,H3.out.2.2.2.1.2 h.c1⟩,H4.out.2.2.2.1.2 h.c2⟩,(Bool.or_eq_true _ _).mpr (h.sign.imp (Um.out.1.symm.trans ·) (Um.out.2.symm.trans ·))⟩).symm.trans HBAD.out) (by decide),rfl⟩,Kd.jB _ _ _ _ _,kN (H4.out.2.1) (Nat.le_of_eq yf.out) _ _ _ _ _ _ _ _ _ _ _⟩
   |true=>
   have hh:=hok;rw[Bool.and_eq_true,Bool.and_eq_true,Bool.and_eq_true,Bool.or_eq_true]at hh;have HK:=zM (show Canon (pt ps 0)∧Canon (pt ps 1)∧Canon (pt ps 2)∧(((pt ps 3).toList==[43])=true∨((pt ps 3).toList==[120])=true)from⟨H2.out.2.2.2.1.1 hh.1.1.1,H3.out.2.2.2.1.1 hh.1.1.2,H4.out.2.2.2.1.1 hh.1.2,hh.2.imp (Um.out.1.trans ·) (Um.out.2.trans ·)⟩);clear hok hh;clear hsp;clear vk vw vz vC vF vG vH Bh Bi Bj nR pq pz pG pI pJ pK pM xA xB xC pF;obtain⟨xb,hxb⟩:∃xb,wc.heap.size=xb:=⟨_,rfl⟩;obtain⟨w5,hw5⟩:∃w5,wc.alloc (.cells #[.int .i64 n0,.string ⟨#[]⟩,.string ⟨#[]⟩,.string ⟨#[]⟩,.string ⟨#[]⟩,.string ⟨#[]⟩,.string ⟨#[]⟩,.int .i64 n2,.slice none 0 0,.int .i64 n1,.bool sg] 41)=w5:=⟨_,rfl⟩;have hB5:Below wc.heap.size wc w5:=by rw[←hw5];exact ag (Below.refl _ _) _
   have Zz:w5.heap[xb]?=some (.cells #[.int .i64 n0,.string ⟨#[]⟩,.string ⟨#[]⟩,.string ⟨#[]⟩,.string ⟨#[]⟩,.string ⟨#[]⟩,.string ⟨#[]⟩,.int .i64 n2,.slice none 0 0,.int .i64 n1,.bool sg] 41 (0,0)):=by rw[←hw5,←hxb];exact bZ wc _
   have hne:w.heap.size≤wc.heap.size:=by have:=H4.out.2.1.size;omega
   have H5:=zM (zA hB5 (zA Zz (zA (show wc.heap.size≤xb by omega) hne)));have HKN:=zM (zA (H2.out.2.2.2.2 HK.out.1) (zA (H3.out.2.2.2.2 HK.out.2.1) (H4.out.2.2.2.2 HK.out.2.2.1)));have HI0:=zM (show nG w wc xb n0 n1 n2 sg ps 4 (.slice none 0 0) w5 from⟨by omega,by have:=HN.out;have:=H8.out.1;omega,fun j h1 h2=>by omega,by unfold EB;rw[show wh ps 4=⟨#[]⟩from if_neg (by omega),show un ps 4=⟨#[]⟩from if_neg (by omega)];exact Zz,by rw[show tg ps 4=[]from by unfold tg;rw[List.drop_of_length_le (by rw[List.length_take];omega)];rfl];exact Kd.jB _ _ _ _ _,hB5⟩);clear hB5 Zz hne;go_wp2_with fail;clear hsg;go_loopg [12] N (fun kq v12 W=>∃(i:Nat) (v8:Value),v12= .int .i64 (i:Int)∧Aside0 (N≤i+kq∧nG w wc xb n0 n1 n2 sg ps i v8 W))
   case atStart=>exact⟨4,.slice none 0 0,rfl,⟨by omega,HI0.out⟩⟩
   case round=>
    obtain⟨i,v8,rfl,HJ⟩:=hrel
    by_cases hi:i<N
    ·have p0:=eq_true (show(0:Int)≤(i:Int)by omega);have q0:=eq_true (show(i:Int)<(N:Int)by omega);have qn:=eq_true hi;have hd:=decide_eq_true hi;have hd2:=decide_eq_true (show(i:Int)<(N:Int)by omega);have ci:=HC.out wr (ah (H4.out.2.2.1) H4.out.2.2.1.size HJ.out.2.2.2.2.2.2) i (by have:=HN.out;omega);have HI:=zM hi;have Ud:=zM (show i<ps.length by have:=HN.out;omega);obtain⟨k1,rfl⟩:∃k1,gk=k1+1:=⟨gk- 1,by have:=HJ.out.1;omega⟩;clear hi;go_wp2_with fail;refine(OZ (pt ps i) _ (by have:=YJ.out i Ud.out;omega)).mono ?_;rintro e w6 ⟨rfl,h3⟩;obtain⟨tt,htt⟩:∃tt,(oM (pt ps i)).1=tt:=⟨_,rfl⟩;obtain⟨bb,hbb⟩:∃bb,(oM (pt ps i)).2=bb:=⟨_,rfl⟩;rw[htt,hbb];have HT:=zM (zA htt hbb);have yu:=zM h3;have HZ6:=zM (zA (aT (aT H4.out.1 (ah HJ.out.2.2.2.2.2.2 HJ.out.2.2.2.2.2.2.size h3)) (Below.refl _ _)) (ah H4.out.2.1 H4.out.2.1.size (ah HJ.out.2.2.2.2.2.2 HJ.out.2.2.2.2.2.2.size h3)));clear h3 htt hbb ci p0 q0 qn
     by_cases h56:i=5∨i=6
     ·have H56:=zM h56;have HNX:=zM (ZX HJ.out.2 Ud.out yu.out h56);rcases h56 with rfl|rfl
      ·go_wp2_with fail
       all_goals
        go_roundg k1
        case measure=>omega
        case rel=>exact⟨5+1,v8,rfl,⟨by have:=HJ.out.1;omega,HNX.out⟩⟩
      ·go_wp2_with fail
       all_goals
        go_roundg k1
        case measure=>omega
        case rel=>exact⟨6+1,v8,rfl,⟨by have:=HJ.out.1;omega,HNX.out⟩⟩
     ·have h5:¬i=5:=fun h=>h56 (.inl h)
      have h6:¬i=6:=fun h=>h56 (.inr h)
      have j5:(i !=5)=true:=bne_iff_ne.mpr h5;have j6:(i !=6)=true:=bne_iff_ne.mpr h6;have j5':((i:Int) !=5)=true:=bne_iff_ne.mpr (by omega);have j6':((i:Int) !=6)=true:=bne_iff_ne.mpr (by omega);have H56:=zM (zA h5 h6);clear h56 h5 h6;cases bb with
      |false=>
       obtain⟨vk,vw,vz,vC,vF,vG,vH,Bh,Bi,Bj,nR⟩:=eleven (HZ6.out.1);obtain⟨pq,pz,pG,pI,pJ,pK,pM,xA,xB,xC,pF⟩:=fC (HZ6.out.1);go_wp2_with fail;refine bodyPost_ret (dw rfl _ _ eb 41 #[.int .i64 0,.string ⟨#[]⟩,.string ⟨#[]⟩,.string ⟨#[]⟩,.string ⟨#[]⟩,.string ⟨#[]⟩,.string ⟨#[]⟩,.int .i64 0,.slice none 0 0,.int .i64 0,.bool false] (0,0) _ rfl (tN (HZ6.out.1) _ _ _ _ _ _ _ _ _ _ _) Tryz.underlying41 rfl (by kernel_rfl)) rfl ?_;exact⟨zE,.slice none 0 0,170,rfl,.inl ⟨ZW HJ.out.2 Ud.out H56.out.1 H56.out.2 HT.out.2,rfl⟩,Kd.jB _ _ _ _ _,kN (HZ6.out.2) (Nat.le_of_eq yf.out) _ _ _ _ _ _ _ _ _ _ _⟩
      |true=>
       by_cases h4:i=4
       ·subst h4;have MW:=zM (aT HJ.out.2.2.2.2.1 yu.out);obtain⟨ey0,ey1,ey2,ey3,ey4,ey5,ey6,ey7,ey8,ey9,Vy⟩:=eleven (MW.out);obtain⟨Vz,VA,VB,VC,VD,VE,VF,VG,VH,VI,Kw⟩:=fC (MW.out);have HNX:=zM (KT HJ.out.2 Ud.out yu.out H5.out.2.2.1 HT.out.2 (j:=1) (.inl ⟨rfl,rfl⟩));go_wp2_with fail;go_roundg k1
        case measure=>omega
        case rel=>exact⟨4+1,v8,rfl,⟨by have:=HJ.out.1;omega,by have h:=HNX.out;rw[HT.out.1]at h;exact h⟩⟩
       ·by_cases h7:i=7
        ·subst h7;have MW:=zM (aT HJ.out.2.2.2.2.1 yu.out);obtain⟨ey0,ey1,ey2,ey3,ey4,ey5,ey6,ey7,ey8,ey9,Vy⟩:=eleven (MW.out);obtain⟨Vz,VA,VB,VC,VD,VE,VF,VG,VH,VI,Kw⟩:=fC (MW.out);have HNX:=zM (KT HJ.out.2 Ud.out yu.out H5.out.2.2.1 HT.out.2 (j:=6) (.inr ⟨rfl,rfl⟩));go_wp2_with fail;go_roundg k1
         case measure=>omega
         case rel=>exact⟨7+1,v8,rfl,⟨by have:=HJ.out.1;omega,by have h:=HNX.out;rw[HT.out.1]at h;exact h⟩⟩
        ·have h8:7<i:=by have:=HJ.out.2.1;have:=H56.out;omega
         have j4:(i==4)=false:=beq_eq_false_iff_ne.mpr h4;have j7:(i==7)=false:=beq_eq_false_iff_ne.mpr h7;have j4':((i:Int)==4)=false:=beq_eq_false_iff_ne.mpr (by omega);have j7':((i:Int)==7)=false:=beq_eq_false_iff_ne.mpr (by omega);have j8:=zT h8;have j8':decide (7<(i:Int))=true:=decide_eq_true (by omega);have H78:=zM h8;have MW:=zM (aT HJ.out.2.2.2.2.1 yu.out);have HR6:=zM (Kd.uV (Kd.dK HJ.out.2.2.2.2.2.1 yu.out) MW.out (by simp[Kd.string,Kd.scalar]));have HRV:=zM (Kd.fO HR6.out);obtain⟨Av,cv,hv8⟩:=HRV.out;have HV8:=zM hv8;have aeO:=zM (ah HJ.out.2.2.2.2.2.2 HJ.out.2.2.2.2.2.2.size yu.out);have hu8:v8.oneCell'=true:=by rw[hv8];rfl
         obtain⟨ey0,ey1,ey2,ey3,ey4,ey5,ey6,ey7,ey8,ey9,Vy⟩:=eleven (MW.out);obtain⟨Vz,VA,VB,VC,VD,VE,VF,VG,VH,VI,Kw⟩:=fC (MW.out);clear h4 h7 h8 hv8;go_wp2_with (first|((with_reducible refine bK (b:= .append) (xs:= #[.tmp 112,.tmp 114]) rfl ?_);at_builtin;refine Kd.dZ Kd.string (w0:=wc) wc.heap.size rfl (.tmp 112) (.tmp 114) 30 9 (.string ⟨#[]⟩) 16 rfl Tryz.underlying30 info9 rfl (by decide) (by omega) v8 (tg ps i) tt [.string tt] (fun k=>k≠xb) (fun _=>False) rfl rfl ?aP (fun _ hk=>hk.elim) ?aF ?aO ?aB ?aS ?aL ?_;(case aP=>exact rfl);(case aF=>exact(fun k hk=>by have h1:=dV MW.out;omega));(case aO=>exact Kd.gI HR6.out (fun k hk=>hk.2));(case aB=>exact aeO.out);(case aS=>exact aeO.out.size);(case aL=>(have h1:=ae8 (ps:=ps) i;have:=HSS.out.2;omega));intro v9 w7 ho hb hg hat;obtain⟨A9,c9,hv9⟩:=Kd.fO ho;obtain⟨n9,hn9⟩:∃n,(tg ps i++[tt]).length=n:=⟨_,rfl⟩;rw[hn9]at hv9;subst hv9;have HN9:=zM (zA ho (zA hb (zA hg hat)));have hE7:w7.heap[xb]?=w6.heap[xb]?:=hg.block xb (dV MW.out) (by intro h;exact(HR6.out.1 _ h.symm).2 rfl);have HE7:=zM (hE7.trans MW.out);obtain⟨ez0,ez1,ez2,ez3,ez4,ez5,ez6,ez7,ez8,ez9,aqY⟩:=eleven HE7.out;obtain⟨aqZ,ar0,ar1,ar2,ar4,ar5,ar6,ar7,ar8,ar9,aoR⟩:=fC HE7.out;clear ho hb hg hat hE7 hn9));go_roundg k1
         case measure=>omega
         case rel=>exact⟨i+1,.slice A9 n9 c9,congrArg (Value.int .i64) (fD (by omega) (by have:=HI.out;have:=HSS.out.2;have:=HN.out;omega)),⟨by have:=HJ.out.1;omega,adk HJ.out.2 Ud.out H78.out H5.out.2.2.1 HT.out.2 HN9.out.2.1 (HE7.out.trans (HJ.out.2.2.2.2.1).symm) (by rw[HT.out.1];exact Kd.gI HN9.out.1 (fun _ _=>trivial))⟩⟩
    ·have hd:=zF hi;have hd2:decide ((i:Int)<(N:Int))=false:=decide_eq_false (by omega);have hiN:i=ps.length:=by have:=HJ.out.2.2.1;have:=HN.out;omega
     have HX:=zM (show nG w wc xb n0 n1 n2 sg ps ps.length v8 wr by rw[←hiN];exact HJ.out.2);have hX2:=HX.out.2.2.2.1;unfold EB at hX2;rw[show wh ps ps.length=(oM (pt ps 4)).1 from if_pos (by have:=HN.out;have:=H8.out.1;omega),show un ps ps.length=(oM (pt ps 7)).1 from if_pos (by have:=HN.out;have:=H8.out.1;omega)]at hX2;have htg:tg ps ps.length=(ps.drop 8).map (fun t=>(oM t).1):=by unfold tg;rw[List.take_length]
     obtain⟨A8,c8,hv8⟩:=Kd.fO HX.out.2.2.2.2.1;rw[htg]at hv8;have hR8:=HX.out.2.2.2.2.1;rw[htg]at hR8;obtain⟨f4,hf4⟩:∃f,(oM (pt ps 4)).1=f:=⟨_,rfl⟩;obtain⟨f7,hf7⟩:∃f,(oM (pt ps 7)).1=f:=⟨_,rfl⟩;obtain⟨f8,hf8⟩:∃f,(ps.drop 8).map (fun t=>(oM t).1)=f:=⟨_,rfl⟩;rw[hf4,hf7]at hX2;rw[hf8]at hv8 hR8;subst hv8;have hBX:=ah H4.out.2.2.1 H4.out.2.2.1.size HX.out.2.2.2.2.2;have JD:=zM (show rJ ps from⟨by have:=HN.out;have:=H8.out.1;omega,HK.out.1,HK.out.2.1,HK.out.2.2.1,HK.out.2.2.2,fun j h1 h2 h3 h4=>HX.out.2.2.1 j h1 h2 h3 h4⟩);have H6:=zM (zA hX2 (zA hR8 (zA hBX (zA hf4 (zA hf7 (zA hf8 (aT H4.out.1 HX.out.2.2.2.2.2)))))));have yu:=zM (ah H4.out.2.1 H4.out.2.1.size HX.out.2.2.2.2.2);have c5:wr.cell? ⟨ad.block,ad.off+5,none⟩=some (.string (pt ps 5)):=by have h:=HC.out wr hBX 5 (by have:=HN.out;have:=H8.out.1;omega);rwa [add_pos ad 5 (by omega)]at h
     have c6:wr.cell? ⟨ad.block,ad.off+6,none⟩=some (.string (pt ps 6)):=by have h:=HC.out wr hBX 6 (by have:=HN.out;have:=H8.out.1;omega);rwa [add_pos ad 6 (by omega)]at h
     have k5:=eq_true (show 5<N by have:=H8.out.1;omega);have k6:=eq_true (show 6<N by have:=H8.out.1;omega);have i5:=eq_true (show(5:Int)<(N:Int)by have:=H8.out.1;omega);have i6:=eq_true (show(6:Int)<(N:Int)by have:=H8.out.1;omega);clear hi hiN hX2 hR8 hBX hf4 hf7 hf8 htg;go_wp2_with fail;refine(wV (pt ps 5) _).mono ?_;rintro e w6 ⟨n,d,er,rfl,⟨m,b,hx,hxx⟩,h3⟩;have hb6:=ah h3 h3.size (ag (Below.refl w6.heap.size w6) (.cells #[.string n,.string d] 39));have H7:=zM (zA hb6 (zA hx (zA hxx (bZ w6 (.cells #[.string n,.string d] 39)))));obtain⟨yb,hyb⟩:∃yb,w6.heap.size=yb:=⟨_,rfl⟩;obtain⟨w7,hw7⟩:∃w7,w6.alloc (.cells #[.string n,.string d] 39)=w7:=⟨_,rfl⟩;rw[hw7,hyb]at H7;have HZ7:=zM (zA (aT H6.out.2.2.2.2.2.2 H7.out.1) (ah yu.out yu.out.size H7.out.1));have c6:=cell_later H7.out.1 c6;clear h3 hx hxx c5 hb6
     by_cases he:er=0
     ·subst he;clear HJ;have HE7:=zM (H7.out.2.2.1 rfl);go_wp2_with fail;refine(wV (pt ps 6) _).mono ?_;rintro e w8 ⟨nn,dd,er,rfl,⟨m2,b2',hx,hxx⟩,h3⟩;have hb8:=ah h3 h3.size (ag (Below.refl w8.heap.size w8) (.cells #[.string nn,.string dd] 39));have YG:=zM (zA hb8 (zA hx (zA hxx (bZ w8 (.cells #[.string nn,.string dd] 39)))));obtain⟨zb,hzb⟩:∃zb,w8.heap.size=zb:=⟨_,rfl⟩;obtain⟨w9,hw9⟩:∃w9,w8.alloc (.cells #[.string nn,.string dd] 39)=w9:=⟨_,rfl⟩;rw[hw9,hzb]at YG;have HZ9:=zM (zA (aT HZ7.out.1 YG.out.1) (ah HZ7.out.2 HZ7.out.2.size YG.out.1));clear h3 hx hxx c6 hb8 hw7 hyb;obtain⟨vk,vw,vz,vC,vF,vG,vH,Bh,Bi,Bj,nR⟩:=eleven (HZ9.out.1);obtain⟨pq,pz,pG,pI,pJ,pK,pM,xA,xB,xC,pF⟩:=fC (HZ9.out.1)
      by_cases he:er=0
      ·subst he;have HE9:=zM (YG.out.2.2.1 rfl);have hX9:=aT (aT H6.out.1 H7.out.1) YG.out.1;obtain⟨ey0,ey1,ey2,ey3,ey4,ey5,ey6,ey7,ey8,ey9,Vy⟩:=eleven (hX9);obtain⟨Vz,VA,VB,VC,VD,VE,VF,VG,VH,VI,Kw⟩:=fC (hX9);obtain⟨y0,y1⟩:=Jp (aT H7.out.2.2.2 YG.out.1);obtain⟨z0,z1⟩:=Jp YG.out.2.2.2;have HX9:=zM hX9;have hne:eb≠xb:=by have h1:=HB0.out.1.size;have h2:=dV HB0.out.2;have h3:=H4.out.2.2.1.size;have h4:=H5.out.2.2.1;have h5:=H1.out.2.1.size;have h6:=dV H1.out.1;omega
       have hlx:w.heap.size≤xb:=by have:=H5.out.2.2.1;have:=H5.out.2.2.2;omega
       obtain⟨wS,mM⟩:∃wS,((((w9.setCell ⟨xb,2,none⟩ (.string n)).setCell ⟨xb,3,none⟩ (.string d)).setCell ⟨xb,4,none⟩ (.string nn)).setCell ⟨xb,5,none⟩ (.string dd))=wS:=⟨_,rfl⟩;have hxS:=amv HX9.out (.string n) (.string d) (.string nn) (.string dd);have hzS:=(agN w9 hne (.string n) (.string d) (.string nn) (.string dd)).trans HZ9.out.1;have hfS:∀k,k≠xb→wS.heap[k]?=w9.heap[k]?:=fun k hk=>by rw[←mM];exact agN w9 hk _ _ _ _
       have hbS:Below w.heap.size w wS:=by rw[←mM];exact(((HZ9.out.2.setCell (p:=⟨xb,2,none⟩) hlx _).setCell (p:=⟨xb,3,none⟩) hlx _).setCell (p:=⟨xb,4,none⟩) hlx _).setCell (p:=⟨xb,5,none⟩) hlx _
       have hR9:=Kd.uV (Kd.uV (Kd.dK (Kd.dK H6.out.2.1 H7.out.1) YG.out.1) HX9.out (by simp[Kd.string,Kd.scalar])) HZ9.out.1 (by simp[Kd.string,Kd.scalar]);rw[mM]at hxS hzS;have YI:=zM (zA hxS (zA hzS (zA hfS (zA hbS (zA hR9 hne)))));clear hne hlx hxS hzS hfS hbS hR9;go_upto_region 30 with(fail);clear mM;clear vk vw vz vC vF vG vH Bh Bi Bj nR pq pz pG pI pJ pK pM xA xB xC pF;clear ey0 ey1 ey2 ey3 ey4 ey5 ey6 ey7 ey8 ey9 Vy Vz VA VB VC VD VE VF VG VH VI Kw;obtain⟨ey0,ey1,ey2,ey3,ey4,ey5,ey6,ey7,ey8,ey9,Vy⟩:=eleven (YI.out.1);obtain⟨Vz,VA,VB,VC,VD,VE,VF,VG,VH,VI,Kw⟩:=fC (YI.out.1);obtain⟨vk,vw,vz,vC,vF,vG,vH,Bh,Bi,Bj,nR⟩:=eleven (YI.out.2.1);obtain⟨pq,pz,pG,pI,pJ,pK,pM,xA,xB,xC,pF⟩:=fC (YI.out.2.1);have HDR:=zM (show Below wS.heap.size wS wS.drew from dB (Below.refl _ _));obtain⟨cn,hcn⟩:∃cn,iK ⟨n0,f4,⟨n,d⟩,⟨nn,dd⟩,f7,n2,f8,n1,sg⟩=cn:=⟨_,rfl⟩;have Jy:=zM (show∀W,Calls Tryz.prog 25 #[.agg #[.int .i64 n0,.string f4,.string n,.string d,.string nn,.string dd,.string f7,.int .i64 n2,.slice A8 f8.length c8,.int .i64 n1,.bool sg]] W fun e w'=>e= .returned (.int .i64 cn)∧Below W.heap.size W w' from fun W=>by rw[←hcn];exact U0 ⟨n0,f4,⟨n,d⟩,⟨nn,dd⟩,f7,n2,f8,n1,sg⟩ A8 c8 W);have YH:=zM hcn;clear hcn;go_region_with ((go_at_call 25;refine(Jy.out _).mono ?_;rintro e w10 ⟨rfl,hb⟩;have hbb:=ah HDR.out HDR.out.size hb;have H10:=zM (zA hbb (zA (aT YI.out.2.1 hbb) (zA (ah YI.out.2.2.2.1 YI.out.2.2.2.1.size hbb) (aT YI.out.1 hbb))));obtain⟨gx0,gx1,gx2,gx3,gx4,gx5,gx6,gx7,gx8,gx9,alh⟩:=eleven H10.out.2.1;obtain⟨gf0,gf1,gf2,gf3,gf4,gf5,gf6,gf7,gf8,gf9,al9⟩:=fC H10.out.2.1;obtain⟨gy0,gy1,gy2,gy3,gy4,gy5,gy6,gy7,gy8,gy9,ali⟩:=eleven H10.out.2.2.2;clear hb hbb))
       all_goals
        go_wp2_with fail;refine bodyPost_ret (dw rfl _ _ eb 41 #[.int .i64 n0,.string f4,.string n,.string d,.string nn,.string dd,.string f7,.int .i64 n2,.slice A8 f8.length c8,.int .i64 n1,.bool sg] (0,0) _ rfl (tN H10.out.2.1 _ _ _ _ _ _ _ _ _ _ _) Tryz.underlying41 rfl (by kernel_rfl)) rfl ?_
        have hXE:(⟨n0,f4,⟨n,d⟩,⟨nn,dd⟩,f7,n2,f8,n1,sg⟩:iU)=Nc 1000001 ps m b m2 b2':=by
         unfold Nc;rw[HE7.out.1,HE7.out.2,HE9.out.1,HE9.out.2,HKN.out.1,HKN.out.2.1,HKN.out.2.2,←Um.out.2,H6.out.2.2.2.1,H6.out.2.2.2.2.1,H6.out.2.2.2.2.2.1]
        refine⟨⟨n0,f4,⟨n,d⟩,⟨nn,dd⟩,f7,n2,f8,n1,sg⟩,.slice A8 f8.length c8,cn,rfl,?_,?_,by first|exact kN H10.out.2.2.1 (Nat.le_of_eq yf.out) _ _ _ _ _ _ _ _ _ _ _|exact kN (dB H10.out.2.2.1) (Nat.le_of_eq yf.out) _ _ _ _ _ _ _ _ _ _ _⟩
        ·exact .inr ⟨JD.out,m,b,0,H7.out.2.1,.inr ⟨rfl,m2,b2',0,YG.out.2.1,.inr ⟨rfl,by rw[←hXE];exact YH.out.symm,fun _=>hXE⟩⟩⟩
        ·have h:=YI.out.2.2.2.2.1;refine Kd.gI (Kd.iV (Kd.ui h (fun k hk hlt=>?_)) H5.out.2.2.2) (fun _ _=>trivial);have h1:=YI.out.2.2.1 k hk.1.2
         have h2:k<wS.heap.size:=by
          rw[Array.getElem?_eq_getElem hlt]at h1;exact(Array.getElem?_eq_some_iff.1 h1).1
         exact(Ky _ hk.2 _ _ _ _ _ _ _ _ _ _ _).trans ((H10.out.1.block k h2).trans h1)
      ·have q0:(er !=0)=true:=bne_iff_ne.mpr he;have HE:=zM he;clear he;go_wp2_with fail;refine bodyPost_ret (dw rfl _ _ eb 41 #[.int .i64 0,.string ⟨#[]⟩,.string ⟨#[]⟩,.string ⟨#[]⟩,.string ⟨#[]⟩,.string ⟨#[]⟩,.string ⟨#[]⟩,.int .i64 0,.slice none 0 0,.int .i64 0,.bool false] (0,0) _ rfl (tN (HZ9.out.1) _ _ _ _ _ _ _ _ _ _ _) Tryz.underlying41 rfl (by kernel_rfl)) rfl ?_;exact⟨zE,.slice none 0 0,er,rfl,.inr ⟨JD.out,m,b,0,H7.out.2.1,.inr ⟨rfl,m2,b2',er,YG.out.2.1,.inl ⟨HE.out,rfl⟩⟩⟩,Kd.jB _ _ _ _ _,kN (HZ9.out.2) (Nat.le_of_eq yf.out) _ _ _ _ _ _ _ _ _ _ _⟩
     ·have q0:(er !=0)=true:=bne_iff_ne.mpr he;have HE:=zM he;clear he;obtain⟨vk,vw,vz,vC,vF,vG,vH,Bh,Bi,Bj,nR⟩:=eleven (HZ7.out.1);obtain⟨pq,pz,pG,pI,pJ,pK,pM,xA,xB,xC,pF⟩:=fC (HZ7.out.1);go_wp2_with fail;refine bodyPost_ret (dw rfl _ _ eb 41 #[.int .i64 0,.string ⟨#[]⟩,.string ⟨#[]⟩,.string ⟨#[]⟩,.string ⟨#[]⟩,.string ⟨#[]⟩,.string ⟨#[]⟩,.int .i64 0,.slice none 0 0,.int .i64 0,.bool false] (0,0) _ rfl (tN (HZ7.out.1) _ _ _ _ _ _ _ _ _ _ _) Tryz.underlying41 rfl (by kernel_rfl)) rfl ?_;exact⟨zE,.slice none 0 0,er,rfl,.inr ⟨JD.out,m,b,er,H7.out.2.1,.inl ⟨HE.out,rfl⟩⟩,Kd.jB _ _ _ _ _,kN (HZ7.out.2) (Nat.le_of_eq yf.out) _ _ _ _ _ _ _ _ _ _ _⟩
def Told (ps:List ByteArray)(i:Nat)(done:List iU):Prop:=∀er pos l',PF (ps.drop i) (i:Int) er pos l'→∃l,PF ps 0 er pos l∧(er=0→l=done++l')
theorem MN (ps:List ByteArray):Told ps 0 []:=fun er pos l' h=>⟨l',h,fun _=>rfl⟩
theorem J8 {ps:List ByteArray}{i:Nat}(h:i+1<ps.length):∃u r,ps.drop i=pt ps i::u::r∧ps.drop (i+1)=u::r:=by
 have h1:ps.drop i=ps[i]::ps.drop (i+1):=List.drop_eq_getElem_cons (by omega);have h2:ps.drop (i+1)=ps[i+1]::ps.drop (i+2):=List.drop_eq_getElem_cons h;exact⟨_,_,by rw[h1,h2,uJ (by omega)],h2⟩
theorem drop_one {ps:List ByteArray}{i:Nat}(h:i+1=ps.length):ps.drop i=[pt ps i]:=by
 have h1:ps.drop i=ps[i]::ps.drop (i+1):=List.drop_eq_getElem_cons (by omega);rw[h1,uJ (by omega),List.drop_of_length_le (by omega)]
theorem G7 {ps:List ByteArray}{i:Nat}{done:List iU}{x:iU}(h:Told ps i done)(hi:i+1<ps.length)(hx:oO (eF 9 (pt ps i)) 0 x):Told ps (i+1) (done++[x]):=by
 intro er pos l' hp;obtain⟨u,r,e1,e2⟩:=J8 hi;rw[e2]at hp
 have h1:PF (ps.drop i) (i:Int) er pos (x::l'):=by
  rw[e1];exact⟨0,x,hx,.inr ⟨rfl,l',hp,fun _=>rfl⟩⟩
 obtain⟨l,h2,h3⟩:=h er pos _ h1;exact⟨l,h2,fun he=>by rw[h3 he,List.append_assoc];rfl⟩
theorem EJ {ps:List ByteArray}{i:Nat}{done:List iU}{x:iU}{er:Int}(h:Told ps i done)(hi:i+1<ps.length)(hx:oO (eF 9 (pt ps i)) er x)(he:er≠0):∃l,PF ps 0 er (i:Int) l:=by
 obtain⟨u,r,e1,e2⟩:=J8 hi;obtain⟨l,h2,_⟩:=h er (i:Int) [] (by rw[e1];exact⟨er,x,hx,.inl ⟨he,rfl,rfl⟩⟩);exact⟨l,h2⟩
theorem G8 {ps:List ByteArray}{i:Nat}{done:List iU}(h:Told ps i done)(hi:i+1=ps.length)(ht:(pt ps i).size≠0):∃l,PF ps 0 170 (i:Int) l:=by
 obtain⟨l,h2,_⟩:=h 170 (i:Int) [] (by rw[drop_one hi];exact .inr ⟨ht,rfl,rfl⟩);exact⟨l,h2⟩
theorem MM {ps:List ByteArray}{i:Nat}{done:List iU}(h:Told ps i done)(hi:i+1=ps.length)(ht:(pt ps i).size=0):PF ps 0 0 0 done:=by
 obtain⟨l,h2,h3⟩:=h 0 0 [] (by rw[drop_one hi];exact .inl ⟨ht,rfl,rfl,rfl⟩);rw[List.append_nil]at h3;rw[←h3 rfl];exact h2
theorem J9 (t:ByteArray):∃b,(t.toList==[])=b∧(t.toList !=[])= !b∧(b=true↔t.size=0):=by
 refine⟨_,rfl,rfl,?_⟩;rw[ByteArray.toList_eq];have h:=bV t;cases hh:t.data.toList with
 |nil=>rw[hh]at h;simp at h;simp[←h]
 |cons a b=>
  rw[hh,List.length_cons]at h;exact⟨fun h0=>Bool.noConfusion h0,fun h0=>by omega⟩
def qo (s:ByteArray)(w:World)(e:Ending)(w':World):Prop:=∃v er pos l,e= .returned (.tuple #[v,.int .i64 er,.int .i64 pos])∧oP s er pos l∧EP.R 41 w' w.heap.size (fun _=>True) v l∧Below w.heap.size w w'
theorem qo.of {s:ByteArray}{w w':World}{e:Ending}(v:Value)(er pos:Int)(l:List iU)(he:e= .returned (.tuple #[v,.int .i64 er,.int .i64 pos]))(ha:oP s er pos l)(hr:EP.R 41 w' w.heap.size (fun _=>True) v l)(hb:Below w.heap.size w w'):qo s w e w':=⟨v,er,pos,l,he,ha,hr,hb⟩
theorem xO (c:UInt8)(s:ByteArray):0<(eF c s).length:=by rw[kZ];omega
theorem Ji (s:ByteArray)(w:World):
  Calls Tryz.prog 17 #[.string s] w fun e w'=>qo s w e w':=by
 by_cases hbig:65536<s.size
 ·have q1:decide (65536<(s.size:Int))=true:=decide_eq_true (by omega);have q2:=zT hbig;have HQ:=zM hbig;clear hbig;go_enter Tryz.func17,Tryz.ntmps17;go_wp2_with fail;go_ret3;exact qo.of (.slice none 0 0) 4 0 [] rfl (.inl ⟨.inl HQ.out,rfl,rfl,rfl⟩) (Kd.jB _ _ _ _ _) (Below.refl _ _)
 ·have q1:decide (65536<(s.size:Int))=false:=decide_eq_false (by omega);have q2:=zF hbig;have HQ:=zM (show s.size≤65536 by omega);clear hbig;have hpos:=xO 10 s;have hS:=qC 10 s;have HTA:=zM (show∀er pos l,oP s er pos l→oP s er pos l from fun _ _ _ h=>h);obtain⟨ps,hps⟩:∃ps,eF 10 s=ps:=⟨_,rfl⟩;rw[hps]at hpos hS;have yg:=zM hps;have YJ:=zM (show∀i,i<ps.length→(pt ps i).size≤65536 from fun i hi=>Nat.le_trans (hS _ (xP hi)) HQ.out);obtain⟨N,hN⟩:∃N,ps.length=N:=⟨_,rfl⟩;have HN:=zM hN;go_enter Tryz.func17,Tryz.ntmps17;go_wp2_with fail;refine(JW 10 s _ (by have:=HQ.out;omega)).mono ?_;rw[hps,hN];rintro e w1 ⟨A,cp,rfl,h1,h2,h3,h4⟩;rw[←hN]at h3;have H1:=zM (zA h4 h3);have HNP:=zM (show 0<N by omega);clear h1 h2 h3 h4 hps hN hpos hS
  by_cases hm:4097<N
  ·have m1:=zT hm;have m2:decide (4097<(N:Int))=true:=decide_eq_true (by omega);have HM:=zM hm;clear hm;go_wp2_with fail;go_ret3;exact qo.of (.slice none 0 0) 4 0 [] rfl (.inl ⟨.inr (by rw[yg.out,HN.out];exact HM.out),rfl,rfl,rfl⟩) (Kd.jB _ _ _ _ _) H1.out.1
  ·have m1:=zF hm;have m2:decide (4097<(N:Int))=false:=decide_eq_false (by omega);have HM:=zM (show N≤4097 by omega);clear hm;obtain⟨ad,rfl,hc⟩:=Ep H1.out.2 (by have:=HN.out;have:=HNP.out;omega);have HC:=zM hc;obtain⟨M,hM⟩:∃M,M+1=N:=⟨N- 1,by have:=HNP.out;omega⟩;have hw1:wrap64 ((N:Int)- 1)=(M:Int):=by rw[fD (by omega) (by have:=HM.out;omega)];omega
   have hw2:IntKind.i64.wrap ((N:Int)- 1)=(M:Int):=by rw[dL];exact hw1
   have HMN:=zM hM;clear hc hM;go_wp2_with fail;go_loopg [6,7] N (fun kq v6 v7 W=>∃(i:Nat) (done:List iU),v7= .int .i64 (i:Int)∧Aside0 (i<N∧N≤i+kq∧done.length=i∧EP.R 41 W w1.heap.size (fun _=>True) v6 done∧Told ps i done∧Below w1.heap.size w1 W))
   case atStart=>exact⟨0,[],rfl,⟨HNP.out,by omega,rfl,Kd.jB _ _ _ _ _,MN ps,Below.refl _ _⟩⟩
   case round=>
    obtain⟨i,done,rfl,HJ⟩:=hrel;have YZ:=zM (ah H1.out.1 H1.out.1.size HJ.out.2.2.2.2.2);have hi:=HJ.out.1;have p0:=eq_true (show(0:Int)≤(i:Int)by omega);have q0:=eq_true (show(i:Int)<(N:Int)by omega);have qn:=eq_true hi;have hd:=decide_eq_true hi;have hd2:=decide_eq_true (show(i:Int)<(N:Int)by omega);have ci:=HC.out wr HJ.out.2.2.2.2.2 i (by have:=HN.out;omega)
    by_cases hl:i=M
    ·have l1:(i==M)=true:=beq_iff_eq.mpr hl;have l2:((i:Int)==(M:Int))=true:=beq_iff_eq.mpr (by omega);have HL:=zM (show i+1=ps.length by have:=HMN.out;have:=HN.out;omega);clear hl hi;obtain⟨b,b1,b2,b3⟩:=J9 (pt ps i);have HB3:=zM b3;clear b3;cases b with
     |true=>
      go_wp2_with fail;go_ret3;exact qo.of _ 0 0 done rfl (.inr ⟨HQ.out,by rw[yg.out,HN.out];exact HM.out,done,by rw[yg.out];exact MM HJ.out.2.2.2.2.1 HL.out (HB3.out.1 (by first|rfl|trivial)),(if_pos rfl).symm⟩) (Kd.iV HJ.out.2.2.2.1 H1.out.1.size) YZ.out
     |false=>
      go_wp2_with fail;go_ret3;obtain⟨l,hp⟩:=G8 HJ.out.2.2.2.2.1 HL.out (fun h=>by have:=HB3.out.2 h;simp at this);exact qo.of (.slice none 0 0) 170 (i:Int) [] rfl (.inr ⟨HQ.out,by rw[yg.out,HN.out];exact HM.out,l,by rw[yg.out];exact hp,(if_neg (by decide)).symm⟩) (Kd.jB _ _ _ _ _) YZ.out
    ·have l1:(i==M)=false:=beq_eq_false_iff_ne.mpr hl;have l2:((i:Int)==(M:Int))=false:=beq_eq_false_iff_ne.mpr (by omega);have HL:=zM (show i+1<ps.length by have:=HMN.out;have:=HN.out;omega);clear hl hi;go_wp2_with fail;refine(Ff (pt ps i) _ (YJ.out i (by have:=HL.out;omega))).mono ?_;rintro e w2 ⟨x,v8,er,rfl,hx,hR,hb⟩;obtain⟨A8,c8,rfl⟩:=Kd.fO hR;unfold EW
     by_cases he:er=0
     ·subst he;obtain⟨w3,hw3⟩:∃w3,w2.alloc (.cells #[.int .i64 x.f0,.string x.f1,.string x.f2.f0,.string x.f2.f1,.string x.f3.f0,.string x.f3.f1,.string x.f4,.int .i64 x.f5,.slice A8 x.f6.length c8,.int .i64 x.f7,.bool x.f8] 41)=w3:=⟨_,rfl⟩;obtain⟨xb,hxb⟩:∃xb,w2.heap.size=xb:=⟨_,rfl⟩;have hE3:w3.heap[xb]?=some (.cells #[.int .i64 x.f0,.string x.f1,.string x.f2.f0,.string x.f2.f1,.string x.f3.f0,.string x.f3.f1,.string x.f4,.int .i64 x.f5,.slice A8 x.f6.length c8,.int .i64 x.f7,.bool x.f8] 41 (0,0)):=by rw[←hw3,←hxb];exact bZ w2 _
      have hb3:Below w2.heap.size w2 w3:=by rw[←hw3];exact ag (Below.refl _ _) _
      have hB3:=ah hb hb.size hb3;have HR3:=zM (Kd.gI (Kd.dK (Kd.jS hR) hb3) (fun k hk=>(show wr.heap.size≤k from hk.2.1)));have abS:=zM (Kd.dK HJ.out.2.2.2.1 hB3);have HB4:=zM (ah YZ.out YZ.out.size hB3);have uf:=zM (ah HJ.out.2.2.2.2.2 HJ.out.2.2.2.2.2.size hB3);have HX:=zM hx;obtain⟨vk,vw,vz,vC,vF,vG,vH,Bh,Bi,Bj,nR⟩:=eleven hE3;obtain⟨k1,rfl⟩:∃k1,gk=k1+1:=⟨gk- 1,by have:=HJ.out.2.1;have:=HJ.out.1;omega⟩;clear hx hR hb hE3 hb3 hB3 ci;go_wp2_with (first|((with_reducible refine bK (b:= .append) (xs:= #[.tmp 47,.tmp 49]) rfl ?_);at_builtin;refine Kd.dZ EP (w0:=w1) w1.heap.size rfl (.tmp 47) (.tmp 49) 22 41 (.agg #[(.int .i64 0),(.string ⟨#[]⟩),(.string ⟨#[]⟩),(.string ⟨#[]⟩),(.string ⟨#[]⟩),(.string ⟨#[]⟩),(.string ⟨#[]⟩),(.int .i64 0),(.slice none 0 0),(.int .i64 0),(.bool false)]) 152 rfl Tryz.underlying22 Xp rfl (by decide) (by omega) u6 done x [.int .i64 x.f0,.string x.f1,.string x.f2.f0,.string x.f2.f1,.string x.f3.f0,.string x.f3.f1,.string x.f4,.int .i64 x.f5,(.slice A8 x.f6.length c8),.int .i64 x.f7,.bool x.f8] (fun _=>True) (fun k=>wr.heap.size≤k) rfl rfl ?aP ?aK ?aF ?aO ?aB ?aS ?aL ?_;(case aP=>exact Qx _ _ _ x (Kd.iV HR3.out HJ.out.2.2.2.2.2.size));(case aK=>exact(fun k hk=>⟨trivial,fun he=>by have h5:=Kd.jS HJ.out.2.2.2.1;have h6:=(h5.1 k he.symm).2.2.1;omega⟩));(case aF=>exact(fun _ _=>trivial));(case aO=>exact abS.out);(case aB=>exact uf.out);(case aS=>exact uf.out.size);(case aL=>(have h1:=HJ.out.2.2.1;have h2:=HJ.out.1;have h3:=HM.out;omega));intro v9 w5 ho hb hg hat;have HN9:=zM (zA ho (zA hb hg));clear ho hb hg hat));go_roundg k1
      case measure=>omega
      case rel=>exact⟨i+1,done++[x],congrArg (Value.int .i64) (fD (by omega) (by have:=HJ.out.1;have:=HM.out;omega)),⟨by have:=HL.out;have:=HN.out;omega,by have:=HJ.out.2.1;omega,by have:=HJ.out.2.2.1;rw[List.length_append,List.length_singleton];omega,HN9.out.1,G7 HJ.out.2.2.2.2.1 HL.out HX.out,HN9.out.2.1⟩⟩
     ·have e0:(er !=0)=true:=bne_iff_ne.mpr he;have HX:=zM (zA he (zA hx (ah YZ.out YZ.out.size hb)));clear hx hR hb he ci;go_wp2_with fail;go_ret3;obtain⟨l,hp⟩:=EJ HJ.out.2.2.2.2.1 HL.out HX.out.2.1 HX.out.1;exact qo.of (.slice none 0 0) er (i:Int) [] rfl (.inr ⟨HQ.out,by rw[yg.out,HN.out];exact HM.out,l,by rw[yg.out];exact hp,(if_neg HX.out.1).symm⟩) (Kd.jB _ _ _ _ _) (by first|exact HX.out.2.2|exact ag HX.out.2.2 _)
def nN (B:Nat)(w0 w:World)(S:Nat→Prop)(f:Nat→Nat)(ad:Addr)(l:List iU)(i:Nat)(W:World):Prop:=
 Below B w0 W∧Kept w W S∧∃g cs,ad=⟨g,0,none⟩∧S g∧B≤g∧W.heap[g]?=some (.cells cs 41 (0,0))∧(∀j,j<l.length→∃u,cs[j*11+1]?=some u)∧
  ∀j,i≤j→j<l.length→∃v8,cs[j*11+8]?=some v8∧Kd.string.R 9 W B (fun k=>(S k∧k≠g)∧f k=j) v8 (aX l (j:Int)).f6
section
variable {B : Nat} {w0 w W W2 : World} {S : Nat → Prop} {f : Nat → Nat} {ad : Addr} {l : List iU} {i : Nat}
theorem nN.base (h:nN B w0 w S f ad l i W):Below B w0 W:=h.1
theorem nN.tags (h:nN B w0 w S f ad l i W)(hi:i<l.length):
  ∃v8,W.cell? ⟨(ad.add (i*11)).block,(ad.add (i*11)).off+8,none⟩=some v8∧Kd.string.R 9 W B (fun k=>(S k∧k≠ad.block)∧f k=i) v8 (aX l (i:Int)).f6:=by
 obtain⟨h1,h2,g,cs,rfl,hs,hB,hg,hc,hr⟩:=h;obtain⟨v8,e8,r8⟩:=hr i (Nat.le_refl _) hi;exact⟨v8,by rw[add_plain];exact(aj hg _).trans e8,r8⟩
theorem nN.what (h:nN B w0 w S f ad l i W){j:Nat}(hj:j<l.length):
  ∃u,W.cell? ⟨(ad.add (j*11)).block,(ad.add (j*11)).off+1,none⟩=some u∧W.frozen? ⟨(ad.add (j*11)).block,(ad.add (j*11)).off+1,none⟩=false:=by
 obtain⟨h1,h2,g,cs,rfl,hs,hB,hg,hc,hr⟩:=h;obtain⟨u,e⟩:=hc j hj;exact⟨u,by rw[add_plain];exact(aj hg _).trans e,by rw[add_plain];exact au hg _⟩
theorem nN.full (h:nN B w0 w S f ad l i W)(hb:Below B w0 W2)(hk:Kept W W2 (fun k=>(S k∧k≠ad.block)∧f k=i)):nN B w0 w S f ad l (i+1) W2:=by
 obtain⟨h1,h2,g,cs,rfl,hs,hB,hg,hc,hr⟩:=h;refine⟨hb,h2.QL hk (fun k hk=> .inl hk.1.1),g,cs,rfl,hs,hB,JM hg hk (fun h=>h.1.2 rfl),hc,fun j hj hl=>?_⟩;obtain⟨v8,e8,r8⟩:=hr j (by omega) hl;exact⟨v8,e8,Kd.NI r8 hk (fun k h3 h4=>by have:=h3.2;have:=h4.2;omega)⟩
theorem nN.put (h:nN B w0 w S f ad l i W)(j:Nat)(u:Value):nN B w0 w S f ad l i (W.setCell ⟨(ad.add (j*11)).block,(ad.add (j*11)).off+1,none⟩ u):=by
 obtain⟨h1,h2,g,cs,rfl,hs,hB,hg,hc,hr⟩:=h;have hp:∀u:Value,(⟨((⟨g,0,none⟩:Addr).add (j*11)).block,((⟨g,0,none⟩:Addr).add (j*11)).off+1,none⟩:Addr)=⟨g,j*11+1,none⟩:=fun _=>by rw[add_plain]
 rw[hp u];refine⟨h1.setCell (p:=⟨g,j*11+1,none⟩) hB u,h2.setCell (p:=⟨g,j*11+1,none⟩) (.inl hs) u,g,cs.setIfInBounds (j*11+1) u,rfl,hs,hB,aN hg _ u,fun m hm=>?_,fun m hm hl=>?_⟩
 ·obtain⟨x,hx⟩:=hc m hm;have hlt:=(Array.getElem?_eq_some_iff.1 hx).1;exact⟨_,Array.getElem?_eq_getElem (by rw[Array.size_setIfInBounds];exact hlt)⟩
 ·obtain⟨v8,e8,r8⟩:=hr m hm hl;exact⟨v8,by rw[Array.getElem?_setIfInBounds_ne (by omega)];exact e8,Kd.aaX r8 (p:=⟨g,j*11+1,none⟩) (fun k h3=>h3.1.2) u⟩
end
theorem nN.start {w0 w:World}{S:Nat→Prop}{v:Value}{l:List iU}(hb:Below w0.heap.size w0 w)(h:Kd.S EP 41 w w0.heap.size S v l)(h0:0<l.length):
  ∃ad c f,v= .slice (some ad) l.length c∧nN w0.heap.size w0 w S f ad l 0 w:=by
 obtain⟨g,c,rfl,hB,hlt,cells,hg⟩:=Kd.ac3 h h0;obtain⟨f,hR⟩:=h
 have hcell:∀j,j<l.length→∃v8,cells[j*11+8]?=some v8∧(∃u,cells[j*11+1]?=some u)∧Kd.string.R 9 w w0.heap.size (fun k=>(S k∧k≠g)∧f k=j) v8 (aX l (j:Int)).f6:=by
  intro j hj;obtain⟨cs,hl,hM,hcc⟩:=Kd.ac1 hR (z41,j) (j:Int) (by omega) (by omega)
  have hz:l.zipIdx.getD (j:Int).toNat (z41,j)=(aX l (j:Int),j):=by
   rw[Int.toNat_natCast,List.getD_eq_getElem?_getD,List.getElem?_zipIdx,xU hj,List.getElem?_eq_getElem hj,Nat.zero_add];rfl
  rw[hz]at hM;have hM2:EP.M w w0.heap.size (fun k=>(S k∧some k≠(Value.slice (some ⟨g,0,none⟩) l.length c).ownBlock)∧f k=j) (aX l (j:Int)) cs:=hM;obtain⟨v8,rfl,r8⟩:=RZ hM2
  have hat:∀n:Nat,(⟨g,0,none⟩:Addr).add ((j:Int).toNat *(Kd.tag f EP).sz+n)=⟨g,j*11+n,none⟩:=fun n=>by
   rw[Int.toNat_natCast,add_plain];rfl
  have e8:=hcc 8 v8 rfl;have e1:=hcc 1 (.string (aX l (j:Int)).f1) rfl;rw[hat,aj hg]at e8 e1;exact⟨v8,e8,⟨_,e1⟩,Kd.gI r8 (fun k hk=>⟨⟨hk.1.1,fun e=>hk.1.2 (by rw[e];rfl)⟩,hk.2⟩)⟩
 refine⟨⟨g,0,none⟩,c,f,rfl,hb,Kept.refl _ _,g,cells,rfl,hR.1 g rfl,hB,hg,fun j hj=>?_,fun j _ hj=>?_⟩
 ·obtain⟨_,_,h,_⟩:=hcell j hj;exact h
 ·obtain⟨v8,e8,_,r8⟩:=hcell j hj;exact⟨v8,e8,r8⟩
theorem PH (w0 w:World)(S:Nat→Prop)(ad:Addr)(c:Nat)(f:Nat→Nat)(l:List iU)(h:nN w0.heap.size w0 w S f ad l 0 w)(hl:l.length≤1000000)(ht:∀x∈l,x.f6.length≤1000000):
  Calls Tryz.prog 18 #[.slice (some ad) l.length c] w fun e w'=>e= .returned (.tuple #[])∧Below w0.heap.size w0 w'∧Kept w w' S:=by
 have HC:=zM (zA h (zA hl ht));clear h hl ht;go_enter Tryz.func18,Tryz.ntmps18;go_wp2_with fail;go_loopg [2] l.length (fun kq v2 W=>∃i:Int,v2= .int .i64 i∧Aside0 (0≤i∧i≤l.length∧l.length≤i+kq∧nN w0.heap.size w0 w S f ad l i.toNat W))
 case atStart=>exact⟨0,rfl,⟨by omega,by omega,by omega,HC.out.1⟩⟩
 case round=>
  obtain⟨i,rfl,HJ⟩:=hrel
  by_cases hi:i<l.length
  ·have p0:=HJ.out.1;have q0:=hi;have hin:i.toNat<l.length:=by omega
   obtain⟨v8,x8,r8⟩:=HJ.out.2.2.2.tags hin;have hcast:((i.toNat:Nat):Int)=i:=by omega
   rw[hcast]at r8;obtain⟨A8,c8,e8⟩:=Kd.fO r8;have HR:=zM (zA r8 (zA hin hi));have htl:=HC.out.2.2 _ (Pq HJ.out.1 hi);have HTL:=zM htl;obtain⟨k1,rfl⟩:∃k1,gk=k1+1:=⟨gk- 1,by have:=HJ.out.2.2.1;omega⟩;have hd:=decide_eq_true q0;clear hi r8 hin hcast htl e8;replace p0:=eq_true p0;replace q0:=eq_true q0;go_wp2_with fail;refine(bD.calls _ _ v8 _ w0 _ HJ.out.2.2.2.base HR.out.1 (Og _ HTL.out)).mono ?_;rintro e w2 ⟨rfl,hb,hk⟩;have HF:=zM (HJ.out.2.2.2.full hb hk);obtain⟨u,hu,huf⟩:=HF.out.what HR.out.2.1;clear hb hk x8;go_wp2_with fail;go_roundg k1
   case measure=>omega
   case rel=>
    have h0:=HJ.out.1;have h1:=HR.out.2.2;have h2:=HC.out.2.1;have hn:(i+1).toNat=i.toNat+1:=by omega
    exact⟨i+1,congrArg (Value.int .i64) (fD (by omega) (by omega)),⟨by omega,by omega,by have:=HJ.out.2.2.1;omega,by rw[hn];exact HF.out.put _ _⟩⟩
  ·have hd:=zF hi;clear hi;go_wp2_with fail;go_end0;exact⟨rfl,HJ.out.2.2.2.base,HJ.out.2.2.2.2.1⟩
theorem PG (w:World)(c:Nat)(A:Option Addr):Calls Tryz.prog 18 #[.slice A 0 c] w fun e w'=>e= .returned (.tuple #[])∧Below w.heap.size w w':=by
 go_enter Tryz.func18,Tryz.ntmps18;go_wp2_with fail;go_loopg [2] 0 (fun kq v2 W=>v2= .int .i64 0∧Aside0 (Below w.heap.size w W))
 case atStart=>exact⟨rfl,⟨Below.refl _ _⟩⟩
 case round=>
  obtain⟨rfl,HJ⟩:=hrel;go_wp2_with fail;go_end0;exact⟨rfl,HJ.out⟩
theorem PE (w0 w:World)(S:Nat→Prop)(v:Value)(l:List iU)(hb:Below w0.heap.size w0 w)(h:Kd.S EP 41 w w0.heap.size S v l)(hl:l.length≤1000000)(ht:∀x∈l,x.f6.length≤1000000):
  Calls Tryz.prog 18 #[v] w fun e w'=>e= .returned (.tuple #[])∧Below w0.heap.size w0 w'∧Kept w w' S:=by
 by_cases h0:0<l.length
 ·obtain⟨ad,c,f,rfl,hi⟩:=nN.start hb h h0;exact PH w0 w S ad c f l hi hl ht
 ·obtain⟨A,c,rfl⟩:=Kd.Ij h;rw[show l.length=0 by omega];refine(PG w c A).mono ?_;rintro e w' ⟨h1,h2⟩;exact⟨h1,ah hb hb.size h2,Kept.of_below h2 _⟩
end Go.Proofs.YthbdjmopolpjmaaGreatDoor.C
namespace Go.Proofs.YthbdjmopolpjmaaGreatDoor.C
open Go.RowKit Go.Extern.Stop Go.Stop Go.Extern Go.Proofs.YthbdjmopolpjmaaGreatDoorW.PrintWords Go.Proofs.YthbdjmopolpjmaaGreatDoorW.PrintLast Go.Proofs.YthbdjmopolpjmaaGreatDoorW.PrintMore Go.Proofs.YthbdjmopolpjmaaGreatDoor.F Go.Proofs.YthbdjmopolpjmaaGreatDoor.M
namespace As
theorem Qd:(Tryz.prog.info? 347).map (·.comparable)=some true:=by kernel_rfl
theorem aat:(Tryz.prog.info? 349).isSome=true:=by kernel_rfl
theorem aap (b:Addr)(w:World):(binOp .eql 44 (.iface 347 (.pointer (some b))) (.iface 347 (.pointer (some b)))).run Tryz.prog w= .ok (.bool true) w:=by
 obtain⟨i,hi,hc⟩:∃i,Tryz.prog.info? 347=some i∧i.comparable=true:=by
  cases h:Tryz.prog.info? 347 with
  |none=>have:=Qd;rw[h]at this;cases this
  |some i=>exact⟨i,rfl,by have:=Qd;rw[h]at this;exact Option.some.inj this⟩
 obtain⟨j,hj⟩:=Option.isSome_iff_exists.1 aat;exact run_eql_iface_ptr_same w b Tryz.underlying44 Tryz.underlying347 hi hc hj
theorem adm (v1:Value)(b:Addr)(w:World):
  Calls Tryz.prog 45 #[.iface 49 (.agg #[.iface 347 (.pointer (some b)),v1]),.iface 347 (.pointer (some b))] w fun e w'=>e= .returned (.bool true)∧Below w.heap.size w w':=by
 have x84:= @run_callFunc_extern Tryz.prog 84 _ ReflectliteType.typeOf Tryz.func84 (by kernel_rfl) (by kernel_rfl) (by kernel_rfl) (by kernel_rfl);have anJ:= @run_callFunc_extern Tryz.prog 294 _ (ReflectliteType.method fun t=>do Rtype.noPackHeld "Comparable" t;pure (.bool (←typeInfo t).comparable)) Tryz.func294 (by kernel_rfl) (by kernel_rfl) (by kernel_rfl) (by kernel_rfl);have y1:=He;have y2:=wL;have y3:=rD;have y4:=XI;have y6:=uC;have y9:=methodUnwrap;have q1:=run_eql_iface_types (P:=Tryz.prog) 49 347 (.agg #[.iface 347 (.pointer (some b)),v1]) (.pointer (some b)) Tryz.underlying44 (by decide);have q2:=aap b;go_enter Tryz.func45,Tryz.ntmps45;go_wp2;refine wp_loop_rounds 2 ?_;rw[rounds_succ];go_wp2;rw[rounds_succ];go_wp2;go_ret;exact⟨rfl,ag (Below.refl _ _) _⟩
end As
theorem wY (b:Addr)(at_:Int)(w:World)(hg:BI w)(hb:w.cell? ⟨0,0,none⟩=some (.iface 347 (.pointer (some b)))):
  Calls Tryz.prog 21 #[.iface 49 (.agg #[.iface 347 (.pointer (some b)),.int .i64 at_])] w fun e w'=>e= .returned (.tuple #[.int .i64 170,.int .i64 at_])∧Below w.heap.size w w':=by
 have HG:=zM (zA hg hb);clear hg hb;go_enter Tryz.func21,Tryz.ntmps21;go_wp2_with fail;refine(FU (.iface 347 (.pointer (some b))) (.int .i64 at_) w _ rfl rfl rfl HG.out.1).mono ?_;rintro e w1 ⟨rfl,h1,h2⟩;have hE:=cell_later h2 HG.out.2;have H1:=zM h2;clear h2;go_wp2_with fail;refine(As.adm (.int .i64 at_) b _).mono ?_;rintro e w2 ⟨rfl,h3⟩;have hc1:=cell_later h3 h1;have H2:=zM (ah H1.out H1.out.size h3);clear h3 hE h1;go_wp2_with fail;go_ret2;exact⟨rfl,H2.out⟩
end Go.Proofs.YthbdjmopolpjmaaGreatDoor.C
