/- Part 8 of the proof. -/
import Derived.Lib.ItoaNum
import Derived.WalkLawsBesides
import Derived.WalkSpells
import Derived.Test.YthbdjmopolpjmaaGreatDoorK02
import Derived.Test.YthbdjmopolpjmaaGreatDoorK05
import Derived.Test.YthbdjmopolpjmaaGreatDoorK07
set_option linter.unusedVariables false
set_option linter.unusedSimpArgs false
set_option maxHeartbeats 8000000
set_option maxRecDepth 100000
namespace Go.Proofs.YthbdjmopolpjmaaGreatDoor.M
open Go.RowKit Go.Proofs.YthbdjmopolpjmaaGreatDoorW.PrintWords Go.Proofs.YthbdjmopolpjmaaGreatDoor.F Go.Proofs.YthbdjmopolpjmaaGreatDoorW.PrintMore
theorem fD {n:Int}(h0: -9223372036854775808≤n)(h1:n≤9223372036854775807):wrap64 n=n:=IntWalk.wrap64_in n ⟨h0,h1⟩
theorem u64 {n:Int}(h0:0≤n)(h1:n<18446744073709551616):IntKind.u64.wrap n=n:=by rw[IntKind.wrap_u64,Int.emod_eq_of_lt h0 h1]
theorem adx {x y:Int}(hx0:0≤x)(hx:x<4294967296)(hy0:0≤y)(hy:y<4294967296):Go.bits .or .u64 (x*4294967296) y=x*4294967296+y:=
 bits_join .u64 64 (by decide) (fun n h0 h1=>by rw[IntKind.wrap_u64];omega) 32 _ _ (by omega) (by omega) (by omega) hy0 (by omega) (by omega)
theorem agm {x:Int}(h0:0≤x)(h1:x<18446744073709551616):Go.bits .and .u64 x 4294967295=x%4294967296:=
 bits_mask .u64 64 (by decide) (fun n h0 h1=>by rw[IntKind.wrap_u64];omega) 32 (by decide) x h0 (by omega)
theorem aax (B:Int):∀(m:Nat) (w:List Int),w.length=m→m≤9223372036854775807→∃n,n≤m∧Trim (w.take n)∧val B (w.take n)=val B w∧Ev (fun k=>dh.l0 k w) (w.take n):=by
 intro m
 induction m with
 |zero=>
  intro w hl _;obtain rfl:=List.eq_nil_of_length_eq_zero hl;exact⟨0,Nat.le_refl _,MO,rfl,Ev.step (f:=fun _=>some []) (fun k=>by simp[dh.l0]) (Ev.now _)⟩
 |succ m ih=>
  intro w hl hm;have e:wrap64 ((w.length:Int)- 1)=(m:Int):=by rw[fD (by omega) (by omega)];omega
  by_cases h0:rd w (m:Int)=0
  ·obtain⟨n,hn,ht,hv,he⟩:=ih (w.take m) (by rw[List.length_take];omega) (by omega);have htt:(w.take m).take n=w.take n:=by rw[List.take_take,Nat.min_eq_left hn]
   refine⟨n,by omega,by rw[←htt];exact ht,?_,?_⟩
   ·rw[←htt,hv];have:=dP B w m (by omega);rw[List.take_of_length_le (by omega),h0]at this;omega
   ·rw[←htt];refine Ev.step (f:=fun k=>dh.l0 k (w.take m)) (fun k=>?_) he;simp only[dh.l0,e];rw[if_pos (by omega),if_pos (by omega),if_pos (by omega),if_pos h0,if_pos (by omega),Int.toNat_natCast]
  ·refine⟨m+1,Nat.le_refl _,?_,by rw[List.take_of_length_le (by omega)],?_⟩
   ·refine Jo (by omega) (by omega) ?_;rw[show(((m+1:Nat):Int)- 1)=(m:Int)by omega];exact h0
   ·rw[List.take_of_length_le (by omega)];refine Ev.step (f:=fun k=>some w) (fun k=>?_) (Ev.now _);simp only[dh.l0,e];rw[if_pos (by omega),if_pos (by omega),if_pos (by omega),if_neg h0]
theorem sZ (B:Int)(w:List Int)(hl:w.length≤9223372036854775807):∃n,n≤w.length∧Trim (w.take n)∧val B (w.take n)=val B w∧Ev (fun k=>dh.f k w) (w.take n):=aax B w.length w rfl hl
def Sg (r x y:Int):Prop:=(r<0↔x<y)∧(r=0↔x=y)
theorem NY {xs ys:List Int}(hx:gV 4294967296 xs)(hy:gV 4294967296 ys)(hl:xs.length=ys.length)(hm:xs.length≤9223372036854775807):∀(m:Nat),m≤xs.length→xs.drop m=ys.drop m→
  ∃r,Sg r (val 4294967296 xs) (val 4294967296 ys)∧-1≤r∧r≤1∧Ev (fun k=>bY.l0 k xs ys ((m:Int)- 1)) r:=by
 intro m
 induction m with
 |zero=>
  intro _ hd;refine⟨0,?_,by omega,by omega,Ev.step (f:=fun _=>some 0) (fun k=>by simp only[bY.l0];rw[if_neg (by omega)]) (Ev.now _)⟩;simp only[List.drop_zero]at hd;subst hd;exact⟨by omega,by omega⟩
 |succ m ih=>
  intro hle hd;have e:(((m+1:Nat):Int)- 1)=(m:Int):=by omega
  rw[e];have bx:=gG hx m (by simp;omega);have by_:=gG hy m (by simp;omega)
  by_cases h:rd xs m=rd ys m
  ·obtain⟨r,hr,r1,r2,he⟩:=ih (by omega) (by rw[kP xs m (by omega),kP ys m (by omega),h,hd]);refine⟨r,hr,r1,r2,Ev.step (fun k=>?_) he⟩;simp only[bY.l0];rw[if_pos (by omega),if_pos (by omega),if_pos (by omega),if_pos (by omega),if_pos h,fD (by omega) (by omega)]
  ·by_cases hlt:rd xs m<rd ys m
   ·refine⟨-1,?_,by omega,by omega,Ev.step (f:=fun _=>some (-1)) (fun k=>?_) (Ev.now _)⟩
    ·have:=vU (by omega) hx hy (show m<xs.length by omega) (by omega) hd hlt;exact⟨by omega,by omega⟩
    ·simp only[bY.l0];rw[if_pos (by omega),if_pos (by omega),if_pos (by omega),if_pos (by omega),if_neg h,if_pos hlt]
   ·refine⟨1,?_,by omega,by omega,Ev.step (f:=fun _=>some 1) (fun k=>?_) (Ev.now _)⟩
    ·have:=vU (by omega) hy hx (show m<ys.length by omega) (by omega) hd.symm (show rd ys m<rd xs m by omega);exact⟨by omega,by omega⟩
    ·simp only[bY.l0];rw[if_pos (by omega),if_pos (by omega),if_pos (by omega),if_pos (by omega),if_neg h,if_neg hlt]
theorem nI {xs ys:List Int}(hx:gV 4294967296 xs)(hy:gV 4294967296 ys)(tx:Trim xs)(ty:Trim ys)(hmx:xs.length≤4611686018427387904)(hmy:ys.length≤4611686018427387904):
  ∃r,Sg r (val 4294967296 xs) (val 4294967296 ys)∧-4611686018427387904≤r∧r≤4611686018427387904∧Ev (fun k=>bY.f k xs ys) r:=by
 by_cases hl:xs.length=ys.length
 ·obtain⟨r,hr,r1,r2,he⟩:=NY hx hy hl (by omega) xs.length (Nat.le_refl _) (by rw[List.drop_length,List.drop_of_length_le (by omega)]);refine⟨r,hr,by omega,by omega,Ev.congr (fun k=>?_) he⟩;unfold bY.f;rw[if_pos (by omega),fD (by omega) (by omega)]
 ·refine⟨(xs.length:Int)- ys.length,?_,by omega,by omega,Ev.congr (f:=fun _=>some ((xs.length:Int)- ys.length)) (fun k=>?_) (Ev.now _)⟩
  ·by_cases h:xs.length<ys.length
   ·have:=ku (B:=4294967296) (by omega) hx hy ty h;exact⟨by omega,by omega⟩
   ·have:=ku (B:=4294967296) (by omega) hy hx tx (show ys.length<xs.length by omega);exact⟨by omega,by omega⟩
  ·unfold bY.f;rw[if_neg (by omega),fD (by omega) (by omega)]
theorem Yh {a:List Int}{b:Int}(ha:gV 4294967296 a)(hb0:0<b)(hb:b<4294967296)(hl:a.length≤9223372036854775807):∀(m:Nat) (out:List Int) (r:Int),m≤a.length→out.length=a.length→gV 4294967296 out→0≤r→r<b→val 4294967296 (a.drop m)=val 4294967296 (out.drop m)*b+r→
  ∃q r',Ev (fun k=>dF.l0 k a b out r ((m:Int)- 1)) (q,r')∧q.length=a.length∧gV 4294967296 q∧0≤r'∧r'<b∧val 4294967296 a=val 4294967296 q*b+r':=by
 intro m
 induction m with
 |zero=>
  intro out r _ hol hod h0 h1 hv;refine⟨out,r,Ev.step (f:=fun _=>some (out,r)) (fun k=>?_) (Ev.now _),hol,hod,h0,h1,by simpa using hv⟩;simp only[dF.l0];rw[if_neg (by omega),Int.emod_eq_of_lt h0 (by omega)]
 |succ m ih=>
  intro out r hm hol hod h0 h1 hv;have e:(((m+1:Nat):Int)- 1)=(m:Int):=by omega
  rw[e];have ba:=gG ha m (by simp;omega);have ub:IntKind.u64.wrap b=b:=u64 (by omega) (by omega);have ua:IntKind.u64.wrap (rd a m)=rd a m:=u64 (by omega) (by omega);have ur:IntKind.u64.wrap (r*4294967296)=r*4294967296:=u64 (by omega) (by omega);have eo:Go.bits .or .u64 (r*4294967296) (rd a m)=r*4294967296+rd a m:=adx h0 (by omega) ba.1 ba.2;have hx0:0≤r*4294967296+rd a m:=by omega
  have hq0:0≤(r*4294967296+rd a m)/b:=Int.ediv_nonneg hx0 (by omega)
  have hq1:(r*4294967296+rd a m)/b<4294967296:=by
   refine Int.ediv_lt_of_lt_mul (by omega) ?_;have:(r+1)*4294967296≤b*4294967296:=Int.mul_le_mul_of_nonneg_right (by omega) (by omega);rw[Int.mul_comm 4294967296 b];omega
  have hr0:0≤(r*4294967296+rd a m)%b:=Int.emod_nonneg _ (by omega);have hr1:(r*4294967296+rd a m)%b<b:=Int.emod_lt_of_pos _ hb0
  obtain⟨q,r',he,Wn,hqd,h0',h1',hv'⟩:=ih (out.set m ((r*4294967296+rd a m)/b)) ((r*4294967296+rd a m)%b) (by omega) (by simpa using hol) (jF hod m ⟨hq0,hq1⟩) hr0 hr1 (by
   rw[kP a m (by omega),kP (out.set m _) m (by simp;omega),jZ];simp only[val];rw[hv]
   have e1:rd (out.set m ((r*4294967296+rd a m)/b)) (m:Int)=(r*4294967296+rd a m)/b:=by
    unfold rd;simp[show m<out.length by omega]
   rw[e1];have:=Int.mul_ediv_add_emod (r*4294967296+rd a m) b;generalize(r*4294967296+rd a m)/b=Q at *;generalize(r*4294967296+rd a m)%b=R at *
   grind)
  refine⟨q,r',Ev.step (fun k=>?_) he,Wn,hqd,h0',h1',hv'⟩;simp only[dF.l0,ub,ua,ur,eo];rw[if_pos (by omega),if_pos (by omega),if_pos (by omega),if_neg (by omega),if_pos (by omega),Int.tdiv_eq_ediv_of_nonneg hx0,Int.tmod_eq_emod_of_nonneg hx0,u64 hq0 (by omega),Int.emod_eq_of_lt hq0 hq1,fD (by omega) (by omega),Int.toNat_natCast]
theorem BC {a:List Int}{b:Int}(ha:gV 4294967296 a)(hb0:0<b)(hb:b<4294967296)(hl:a.length≤70368744177664):
  ∃q r,Ev (fun k=>dF.f k a b) (q,r)∧q.length=a.length∧gV 4294967296 q∧0≤r∧r<b∧val 4294967296 a=val 4294967296 q*b+r:=by
 obtain⟨q,r,he,h⟩:=Yh ha hb0 hb (by omega) a.length (List.replicate a.length 0) 0 (Nat.le_refl _) (by simp) (jA (by omega) _) (by omega) (by omega) (by simp[val]);refine⟨q,r,Ev.congr (fun k=>?_) he,h⟩;unfold dF.f;rw[if_pos (by omega),if_pos (by omega),Int.toNat_natCast,fD (by omega) (by omega)]
theorem qE (xs:List Int)(i:Nat)(v:Int)(h:i<xs.length):rd (xs.set i v) (i:Int)=v:=by
 unfold rd;simp[h]
theorem vK (xs:List Int)(i:Nat)(v:Int)(j:Int)(h:j.toNat≠i):rd (xs.set i v) j=rd xs j:=by
 unfold rd;simp[List.getElem?_set_ne (Ne.symm h)]
theorem zg (x:Int)(h0:0≤x)(h1:x<18446744073709551616):0≤x%4294967296∧x%4294967296<4294967296∧0≤x/4294967296∧x/4294967296<4294967296∧x=x%4294967296+4294967296*(x/4294967296):=by omega
theorem yQ {x y:Int}(hx0:0≤x)(hx:x<4294967296)(hy0:0≤y)(hy:y<4294967296):0≤x*y∧x*y≤18446744065119617025:=by
 refine⟨Int.mul_nonneg hx0 hy0,?_⟩;have h1:x*y≤4294967295*y:=Int.mul_le_mul_of_nonneg_right (by omega) hy0;omega
theorem aa3 {w:List Int}{t add:Int}(hw:gV 4294967296 w)(ht0:0≤t)(ht:t<4294967296)(hl:w.length<35184372088832):∀(d i:Nat) (x:List Int) (c:Int),i+d=w.length→x.length=w.length→gV 4294967296 x→x.drop i=w.drop i→0≤c→c<4294967296→
  val 4294967296 (x.take i)+4294967296^i*c=val 4294967296 (w.take i)*t+add→
  ∃r,Ev (fun k=>dX.l0 k x t c (w.length:Int) (i:Int)) r∧gV 4294967296 r∧r.length≤w.length+1∧val 4294967296 r=val 4294967296 w*t+add:=by
 intro d
 induction d with
 |zero=>
  intro i x c hi hxl hxd hdr h0 h1 hv;obtain rfl:i=w.length:=by omega
  rw[List.take_of_length_le (by omega),List.take_of_length_le (by omega)]at hv
  by_cases hc:c>0
  ·refine⟨x++[c%4294967296],Ev.step (f:=fun _=>some (x++[c%4294967296])) (fun k=>?_) (Ev.now _),?_,by simp;omega,?_⟩
   ·simp only[dX.l0];rw[if_neg (by omega),if_pos hc,if_pos (by omega)]
   ·rw[pg];exact⟨hxd,fun y hy=>by simp at hy;subst hy;omega⟩
   ·rw[rF,hxl,Int.emod_eq_of_lt h0 h1];exact hv
  ·refine⟨x,Ev.step (f:=fun _=>some x) (fun k=>?_) (Ev.now _),hxd,by omega,?_⟩
   ·simp only[dX.l0];rw[if_neg (by omega),if_neg hc]
   ·obtain rfl:c=0:=by omega
    simpa using hv
 |succ d ih=>
  intro i x c hi hxl hxd hdr h0 h1 hv;have hiw:i<w.length:=by omega
  have hrd:rd x i=rd w i:=pY (by omega) hdr;have bx:=gG hxd i (by simp;omega);have bm:=yQ bx.1 bx.2 ht0 ht;have hs:=zg (c+rd x i*t) (by omega) (by omega)
  obtain⟨r,he,h⟩:=ih (i+1) (x.set i ((c+rd x i*t)%4294967296)) ((c+rd x i*t)/4294967296) (by omega) (by simpa using hxl) (jF hxd i ⟨hs.1,hs.2.1⟩) (by rw[jZ];exact rY hdr) hs.2.2.1 hs.2.2.2.1 (by
   rw[jV _ x i _ (by omega),dP _ w i hiw,Int.pow_succ,←hrd];have h5:=hs.2.2.2.2;generalize(c+rd x i*t)%4294967296=lo at *;generalize(c+rd x i*t)/4294967296=hi at *;generalize(4294967296:Int)^i=P at *
   grind)
  refine⟨r,Ev.step (fun k=>?_) he,h⟩;simp only[dX.l0];rw[if_pos (by omega),if_pos (by omega),if_pos (by omega),u64 bx.1 (by omega),u64 ht0 (by omega),u64 bm.1 (by omega),u64 (by omega) (by omega),fD (by omega) (by omega),Int.toNat_natCast];rfl
theorem OC {w:List Int}{t add:Int}(hw:gV 4294967296 w)(ht0:0≤t)(ht:t<4294967296)(ha0:0≤add)(ha:add<4294967296)(hl:w.length<35184372088832):
  ∃r,Ev (fun k=>dX.f k w t add) r∧gV 4294967296 r∧r.length≤w.length+1∧val 4294967296 r=val 4294967296 w*t+add:=by
 obtain⟨r,he,h⟩:=aa3 (add:=add) hw ht0 ht hl w.length 0 w add (by omega) rfl hw rfl ha0 ha (by simp[val]);refine⟨r,Ev.congr (fun k=>?_) he,h⟩;unfold dX.f;rw[u64 ha0 (by omega)];rfl
theorem lH:∀m:Nat,m<32→(1:Int)≤2^m∧(2:Int)^m*2≤4294967296∧(2:Int)^m*(4294967296/2^m)=4294967296∧(1:Int)≤4294967296/2^m:=by decide
theorem amq {x y:Int}{m:Nat}(hm:m≤32)(hx0:0≤x)(hx:x%2^m=0)(hx1:x<4294967296)(hy0:0≤y)(hy:y<2^m)(hy1:y<4294967296):Go.bits .or .u32 x y=x+y:=
 bits_join .u32 32 (by decide) (fun n h0 h1=>by rw[IntKind.wrap_u32];omega) m _ _ hx0 hx (by omega) hy0 hy (by omega)
theorem ahD {x y:Int}{m:Nat}(hm:m≤32)(hx0:0≤x)(hx:x%2^m=0)(hx1:x<4294967296)(hy0:0≤y)(hy:y<2^m)(hy1:y<4294967296):Go.bits .or .u32 y x=y+x:=by
 have h:=amq hm hx0 hx hx1 hy0 hy hy1;have hc:Go.bits .or .u32 y x=Go.bits .or .u32 x y:=by simp only[Go.bits];rw[BitVec.or_comm]
 rw[hc,h,Int.add_comm]
theorem ae4 {x:Int}{m:Nat}(hm:m<32)(h0:0≤x)(h1:x<4294967296):shl .u64 x (m:Int)=x*2^m:=by
 have hp:=lH m hm;have:=yQ h0 h1 (show(0:Int)≤2^m by omega) (by omega);unfold shl;rw[show min (m:Int).toNat IntKind.u64.bits=m by simp[IntKind.bits];omega];exact u64 this.1 (by omega)
theorem Yf {x:Int}{m:Nat}(hm:m<32):shr .u64 x (m:Int)=x/2^m:=by
 unfold shr;rw[show min (m:Int).toNat IntKind.u64.bits=m by simp[IntKind.bits];omega]
theorem aa0 {a:List Int}{m:Nat}(hm:m<32)(ha:gV 4294967296 a)(hl:a.length<70368744177664):∀(d i:Nat) (x:List Int),i+d=a.length→x.length=a.length+1→gV 4294967296 x→rd x i<2^m→val 4294967296 (x.drop (i+1))=0→
  val 4294967296 (x.take i)+4294967296^i*rd x i=val 4294967296 (a.take i)*2^m→
  ∃r,Ev (fun k=>dH.l0 k (m:Int) x a (a.length:Int) (i:Int)) r∧gV 4294967296 r∧r.length=a.length+1∧val 4294967296 r=val 4294967296 a*2^m:=by
 have hp:=lH m hm;intro d
 induction d with
 |zero=>
  intro i x hi hxl hxd hlow hz hv;obtain rfl:i=a.length:=by omega
  refine⟨x,Ev.step (f:=fun _=>some x) (fun k=>?_) (Ev.now _),hxd,hxl,?_⟩
  ·simp only[dH.l0];rw[if_neg (by omega)]
  ·rw[List.take_of_length_le (Nat.le_refl a.length)]at hv;rw[lF _ x (a.length+1) (by omega),hz,dP _ x a.length (by omega)];omega
 |succ d ih=>
  intro i x hi hxl hxd hlow hz hv;have hia:i<a.length:=by omega
  have bx:=gG hxd i (by simp;omega);have ba:=gG ha i (by simp;omega);generalize hT:(2:Int)^m=T at *;generalize hC:4294967296/T=C at *;have bm:=yQ ba.1 ba.2 (show 0≤T by omega) (by omega);have hs:=zg (rd a i*T) bm.1 (by omega)
  have hmod:(rd a i*T%4294967296)%T=0:=by
   have h1:rd a i*T%4294967296=T*(rd a i%C):=by
    rw[←hp.2.2.1,Int.mul_comm (rd a i) T,Int.mul_emod_mul_of_pos _ _ (by omega)]
   rw[h1];simp
  have hlo:rd a i*T%4294967296≤4294967296- T:=by
   have h1:rd a i*T%4294967296=T*(rd a i%C):=by
    rw[←hp.2.2.1,Int.mul_comm (rd a i) T,Int.mul_emod_mul_of_pos _ _ (by omega)]
   have h2:rd a i%C<C:=Int.emod_lt_of_pos _ (by omega);have h3:T*(rd a i%C+1)≤T*C:=Int.mul_le_mul_of_nonneg_left (by omega) (by omega);rw[Int.mul_add]at h3;omega
  have hhi:rd a i*T/4294967296<T:=by
   refine Int.ediv_lt_of_lt_mul (by omega) ?_;have h3:(rd a i+1)*T≤4294967296*T:=Int.mul_le_mul_of_nonneg_right (by omega) (by omega);rw[Int.add_mul]at h3;rw[Int.mul_comm T];omega
  have eor:Go.bits .or .u32 (rd x i) (rd a i*T%4294967296)=rd x i+rd a i*T%4294967296:=
   ahD (m:=m) (by omega) hs.1 (by rw[hT];exact hmod) hs.2.1 bx.1 (by rw[hT];exact hlow) bx.2
  have e1:rd ((x.set i (rd x i+rd a i*T%4294967296)).set (i+1) (rd a i*T/4294967296)) ((i+1:Nat):Int)=rd a i*T/4294967296:=by
   exact qE _ (i+1) _ (by simp;omega)
  have hzz:val 4294967296 (x.drop (i+1+1))=0:=by
   rw[kP x (i+1) (by omega)]at hz;simp only[val]at hz;have b2:=gG hxd ((i+1:Nat):Int) (by simp;omega);have:=dW (by omega) (lX hxd (i+1+1));omega
  obtain⟨r,he,h⟩:=ih (i+1) ((x.set i (rd x i+rd a i*T%4294967296)).set (i+1) (rd a i*T/4294967296)) (by omega) (by simp;omega) (jF (jF hxd i ⟨by omega,by omega⟩) (i+1) ⟨by omega,by omega⟩) (by rw[e1];exact hhi) (by
   rw[jZ,List.drop_set_of_lt (by omega)];exact hzz) (by
   rw[e1,List.take_set_of_le (by omega),jV _ x i _ (by omega),dP _ a i hia,Int.pow_succ];have h5:=hs.2.2.2.2;generalize rd a i*T%4294967296=lo at *;generalize rd a i*T/4294967296=hi at *;generalize(4294967296:Int)^i=P at *
   grind)
  refine⟨r,Ev.step (fun k=>?_) he,h⟩;simp only[dH.l0];rw[if_pos (by omega),if_pos (by omega),if_pos (by omega),if_pos (by omega),if_pos (by omega),fD (by omega) (by omega),if_pos (by omega),if_pos (by omega),u64 ba.1 (by omega),ae4 hm ba.1 ba.2,hT,eor,Int.emod_eq_of_lt hs.2.2.1 hs.2.2.2.1,Int.toNat_natCast];rfl
theorem Ee {a:List Int}{n:Int}(h0:0≤n)(h1:n<32)(ha:gV 4294967296 a)(hl:a.length<70368744177664):
  ∃r,Ev (fun k=>dH.f k a n) r∧gV 4294967296 r∧r.length=a.length+1∧val 4294967296 r=val 4294967296 a*2^n.toNat:=by
 obtain⟨m,rfl⟩:=Int.eq_ofNat_of_zero_le h0;have hp:=lH m (by omega);have e0:rd (List.replicate (a.length+1) 0) ((0:Nat):Int)=0:=by simp[rd,List.replicate_succ]
 obtain⟨r,he,h⟩:=aa0 (m:=m) (by omega) ha hl a.length 0 (List.replicate (a.length+1) 0) (by omega) (by simp) (jA (by omega) _) (by rw[e0];omega) (by simp[List.drop_replicate,nM]) (by rw[e0];simp[val]);refine⟨r,Ev.congr (fun k=>?_) he,h⟩;unfold dH.f;rw[fD (by omega) (by omega),if_pos (by omega),if_pos (by omega),show((a.length:Int)+1).toNat=a.length+1 by omega];rfl
theorem ahE {x y:Int}(hx0:0≤x)(hx:x<4294967296)(hy0:0≤y)(hy:y<4294967296):Go.bits .or .u64 y (x*4294967296)=y+x*4294967296:=by
 have hc:Go.bits .or .u64 y (x*4294967296)=Go.bits .or .u64 (x*4294967296) y:=by simp only[Go.bits];rw[BitVec.or_comm]
 rw[hc,adx hx0 hx hy0 hy,Int.add_comm]
def rest (a:List Int)(T:Int)(i:Nat):Int:=if i<a.length then rd a i%T else 0
theorem X9 {a:List Int}{m:Nat}(hm:m<32)(ha:gV 4294967296 a)(hl:a.length<70368744177664):∀(d i:Nat) (x:List Int),i+d=a.length→x.length=a.length→gV 4294967296 x→
  2^m*val 4294967296 (x.take i)+rest a (2^m) 0=val 4294967296 (a.take i)+4294967296^i*rest a (2^m) i→
  ∃r,Ev (fun k=>di.l0 k a (m:Int) x a (a.length:Int) (i:Int)) r∧gV 4294967296 r∧r.length=a.length∧2^m*val 4294967296 r+rest a (2^m) 0=val 4294967296 a:=by
 have hp:=lH m hm;intro d
 induction d with
 |zero=>
  intro i x hi hxl hxd hv;obtain rfl:i=a.length:=by omega
  refine⟨x,Ev.step (f:=fun _=>some x) (fun k=>?_) (Ev.now _),hxd,hxl,?_⟩
  ·simp only[di.l0];rw[if_neg (by omega)]
  ·rw[List.take_of_length_le (Nat.le_refl a.length),List.take_of_length_le (by omega)]at hv;rw[hv,rest,if_neg (by omega)];simp
 |succ d ih=>
  intro i x hi hxl hxd hv;have hia:i<a.length:=by omega
  have ba:=gG ha i (by simp;omega);generalize hT:(2:Int)^m=T at *;generalize hC:4294967296/T=C at *;have hq:=Int.mul_ediv_add_emod (rd a i) T;have hr0:0≤rd a i%T:=Int.emod_nonneg _ (by omega);have hr1:rd a i%T<T:=Int.emod_lt_of_pos _ (by omega);have hq0:0≤rd a i/T:=Int.ediv_nonneg ba.1 (by omega)
  have hqC:rd a i/T<C:=by
   refine Int.ediv_lt_of_lt_mul (by omega) ?_;rw[Int.mul_comm];omega
  have hri:rest a T i=rd a i%T:=by rw[rest,if_pos hia]
  have hnew:∀w:Int,0≤w→w<4294967296→((rd a i+w*4294967296)/T)%4294967296=rd a i/T+(w%T)*C:=by
   intro w hw0 hw1;have e1:rd a i+w*4294967296=rd a i+T*(w*C):=by rw[←hp.2.2.1];grind
   rw[e1,Int.add_mul_ediv_left _ _ (by omega)];have hw:=Int.mul_ediv_add_emod w T;have hw2:0≤w%T:=Int.emod_nonneg _ (by omega);have hw3:w%T<T:=Int.emod_lt_of_pos _ (by omega)
   have e2:rd a i/T+w*C=(rd a i/T+(w%T)*C)+4294967296*(w/T):=by
    rw[←hp.2.2.1];generalize w/T=W1 at *;generalize w%T=W2 at *;grind
   rw[e2,Int.add_mul_emod_self_left];have h3:(w%T+1)*C≤T*C:=Int.mul_le_mul_of_nonneg_right (by omega) (by omega);rw[Int.add_mul]at h3;have h4:=Int.mul_nonneg hw2 (show 0≤C by omega);rw[Int.emod_eq_of_lt (by omega) (by omega)]
  have akx:∀s:Int,0≤s→s<T→0≤rd a i/T+s*C∧rd a i/T+s*C<4294967296:=by
   intro s hs0 hs1;have h3:(s+1)*C≤T*C:=Int.mul_le_mul_of_nonneg_right (by omega) (by omega);rw[Int.add_mul]at h3;have h4:=Int.mul_nonneg hs0 (show 0≤C by omega);omega
  have step:∀s:Int,s=rest a T (i+1)→0≤s→s<T→∃r,Ev (fun k=>di.l0 k a (m:Int) (x.set i (rd a i/T+s*C)) a (a.length:Int) ((i:Int)+1)) r∧gV 4294967296 r∧r.length=a.length∧T*val 4294967296 r+rest a T 0=val 4294967296 a:=by
   intro s hs hs0 hs1;refine ih (i+1) (x.set i (rd a i/T+s*C)) (by omega) (by simpa using hxl) (jF hxd i (akx s hs0 hs1)) ?_;rw[jV _ x i _ (by omega),dP _ a i hia,Int.pow_succ,←hs];rw[hri]at hv;generalize rd a i/T=Q at *;generalize rd a i%T=R at *;generalize(4294967296:Int)^i=P at *;generalize rest a T 0=R0 at *;have:=hp.2.2.1;grind
  by_cases hlast:i+1<a.length
  ·have b2:=gG ha ((i+1:Nat):Int) (by simp;omega);obtain⟨r,he,h⟩:=step (rd a ((i+1:Nat):Int)%T) (by rw[rest,if_pos hlast]) (Int.emod_nonneg _ (by omega)) (Int.emod_lt_of_pos _ (by omega));refine⟨r,Ev.step (fun k=>?_) he,h⟩;have ei:((i+1:Nat):Int)=(i:Int)+1:=by omega
   rw[ei]at b2;simp only[di.l0];rw[fD (by omega) (by omega)];rw[if_pos (by omega),if_pos (by omega),if_pos (by omega),if_pos (by omega),if_pos (by omega),if_pos (by omega),if_pos (by omega),u64 ba.1 (by omega),u64 b2.1 (by omega),u64 (show 0≤rd a ((i:Int)+1)*4294967296 by omega) (by omega),ahE b2.1 b2.2 ba.1 ba.2,Yf hm,hT,hnew _ b2.1 b2.2,Int.toNat_natCast,ei]
  ·obtain⟨r,he,h⟩:=step 0 (by rw[rest,if_neg hlast]) (by omega) (by omega);refine⟨r,Ev.step (fun k=>?_) he,h⟩;simp only[di.l0];rw[fD (by omega) (by omega)];have:=hnew 0 (by omega) (by omega);simp only[Int.zero_mul,Int.add_zero,Int.zero_emod]at this;rw[if_pos (by omega),if_pos (by omega),if_pos (by omega),if_neg (by omega),if_pos (by omega),if_pos (by omega),u64 ba.1 (by omega),Yf hm,hT,this,Int.toNat_natCast];simp
theorem Mc {a:List Int}{n:Int}(h0:0≤n)(h1:n<32)(ha:gV 4294967296 a)(hl:a.length<70368744177664)(q:Int)(hq:val 4294967296 a=q*2^n.toNat):
  ∃r,Ev (fun k=>di.f k a n) r∧gV 4294967296 r∧r.length=a.length∧val 4294967296 r=q:=by
 obtain⟨m,rfl⟩:=Int.eq_ofNat_of_zero_le h0;have hp:=lH m (by omega);obtain⟨r,he,hd,hlr,hv⟩:=X9 (m:=m) (by omega) ha hl a.length 0 (List.replicate a.length 0) (by omega) (by simp) (jA (by omega) _) (by simp[val]);refine⟨r,Ev.congr (fun k=>?_) he,hd,hlr,?_⟩
 ·unfold di.f;rw[if_pos (by omega),if_pos (by omega),Int.toNat_natCast];rfl
 ·rw[Int.toNat_natCast]at hq
  have hr:0≤rest a (2^m) 0∧rest a (2^m) 0<2^m:=by
   unfold rest;split
   ·exact⟨Int.emod_nonneg _ (by omega),Int.emod_lt_of_pos _ (by omega)⟩
   ·omega
  have e:val 4294967296 a=val 4294967296 r*2^m+rest a (2^m) 0:=by rw[←hv,Int.mul_comm]
  have d1:=rX e hr.1 hr.2;have d2:=rX (show val 4294967296 a=q*2^m+0 by omega) (by omega) (by omega);omega
end Go.Proofs.YthbdjmopolpjmaaGreatDoor.M
namespace Go.Proofs.YthbdjmopolpjmaaGreatDoor.M
open Go.RowKit Go.Proofs.YthbdjmopolpjmaaGreatDoorW.PrintWords Go.Proofs.YthbdjmopolpjmaaGreatDoorW.PrintLast Go.Proofs.YthbdjmopolpjmaaGreatDoorW.PrintMore Go.Proofs.YthbdjmopolpjmaaGreatDoor.F
def dec:Int→List Int→Int
 |v,[]=>v
 |v,c::cs=>dec (v*10+(c- 48)) cs
def Num (xs:List Int):Prop:=∀c∈xs,48≤c∧c≤57
theorem mG (xs ys:List Int):∀v,dec v (xs++ys)=dec (dec v xs) ys:=by
 induction xs with
 |nil=>intro v;rfl
 |cons c cs ih=>intro v;exact ih _
theorem CU (xs:List Int):∀v,dec v xs=v*10^xs.length+dec 0 xs:=by
 induction xs with
 |nil=>intro v;simp[dec]
 |cons c cs ih=>
  intro v;simp only[dec,List.length_cons];rw[ih (v*10+(c- 48)),ih (0*10+(c- 48)),Int.pow_succ];grind
theorem JY (v:Int)(xs:List Int)(c:Int):dec v (xs++[c])=dec v xs*10+(c- 48):=by rw[mG];rfl
theorem Num.take {xs:List Int}(h:Num xs)(n:Nat):Num (xs.take n):=fun c hc=>h c (List.mem_of_mem_take hc)
theorem Num.drop {xs:List Int}(h:Num xs)(n:Nat):Num (xs.drop n):=fun c hc=>h c (List.mem_of_mem_drop hc)
theorem Ac {xs:List Int}(h:Num xs)(i:Int)(hi:i.toNat<xs.length):48≤rd xs i∧rd xs i≤57:=by
 have:rd xs i=xs[i.toNat]:=by simp[rd,List.getD_eq_getElem?_getD,hi]
 rw[this];exact h _ (List.getElem_mem hi)
theorem jh {xs:List Int}(h:Num xs):0≤dec 0 xs∧dec 0 xs<10^xs.length:=by
 induction xs with
 |nil=>simp[dec]
 |cons c cs ih=>
  have hc:=h c (by simp);obtain⟨h1,h2⟩:=ih (fun c hc=>h c (by simp[hc]))
  have e:dec 0 (c::cs)=(c- 48)*10^cs.length+dec 0 cs:=by
   simp only[dec];rw[CU];simp
  rw[e,List.length_cons,Int.pow_succ];have hp:(0:Int)<10^cs.length:=Int.pow_pos (by decide);have:=Int.mul_nonneg (show 0≤c- 48 by omega) (Int.le_of_lt hp);have:=Int.mul_le_mul_of_nonneg_right (show c- 48≤9 by omega) (Int.le_of_lt hp);omega
theorem wM {xs:List Int}(v:Int)(j:Nat)(h:j<xs.length):dec v (xs.take (j+1))=dec v (xs.take j)*10+(rd xs (j:Int)- 48):=by
 rw[zh xs j h,JY]
theorem Qi (v:Int)(xs:List Int)(n:Nat):dec v xs=dec (dec v (xs.take n)) (xs.drop n):=by
 rw[←mG,List.take_append_drop]
theorem yR:∀j:Nat,j≤9→(1:Int)≤10^j∧(10:Int)^j≤1000000000:=by decide
theorem nZ (s:ByteArray)(a b:Nat)(h:b≤s.size):bytesOf (s.extract a b)=((bytesOf s).take b).drop a:=by
 simp only[bytesOf,ByteArray.data_extract,Array.toList_extract,List.extract,List.map_take,List.map_drop];rw[List.take_drop]
 by_cases hab:a≤b
 ·rw[show a+(b- a)=b by omega]
 ·have h1:b- a=0:=by omega
  simp[h1];omega
theorem Su {s:ByteArray}(h:∀i:Nat,i<s.size→48≤bt s (i:Int)∧bt s (i:Int)≤57):Num (bytesOf s):=by
 intro c hc;obtain⟨i,hi,rfl⟩:=List.mem_iff_getElem.1 hc;rw[bytesOf_length]at hi;have:=h i hi;rw[←gW]at this;have hi':i<(bytesOf s).length:=by rw[bytesOf_length];exact hi
 simpa[rd,List.getD_eq_getElem?_getD,hi']using this
def lU (s:ByteArray):Prop:=0<s.size∧s.size≤600∧(bt s 0=48→s.size≤1)∧Num (bytesOf s)
def dv (s:ByteArray):Int:=dec 0 (bytesOf s)
theorem C9 (s:ByteArray):Num (bytesOf s)↔∀j:Nat,j<s.size→48≤bt s (j:Int)∧bt s (j:Int)≤57:=by
 refine⟨fun h j hj=>?_,Su⟩;rw[←gW];exact Ac h _ (by rw[bytesOf_length];exact hj)
theorem Ro (s:ByteArray)(hs:s.size≤1000000):∀(d i:Nat),i+d=s.size→∃b,Ev (fun k=>bM.l0 k s (s.size:Int) (i:Int)) b∧(b=true↔∀j:Nat,i≤j→j<s.size→48≤bt s (j:Int)∧bt s (j:Int)≤57):=by
 intro d
 induction d with
 |zero=>
  intro i hi;refine⟨true,Ev.step (f:=fun _=>some true) (fun k=>?_) (Ev.now _),?_⟩
  ·simp only[bM.l0];rw[if_neg (by omega)]
  ·simp;intro j h1 h2;omega
 |succ d ih=>
  intro i hi
  by_cases h1:bt s (i:Int)<48
  ·refine⟨false,Ev.step (f:=fun _=>some false) (fun k=>?_) (Ev.now _),?_⟩
   ·simp only[bM.l0];rw[if_pos (by omega),if_pos (by omega),if_pos (by omega),if_pos h1]
   ·simp only[Bool.false_eq_true,false_iff];intro h;have:=h i (Nat.le_refl _) (by omega);omega
  ·by_cases h2:bt s (i:Int)>57
   ·refine⟨false,Ev.step (f:=fun _=>some false) (fun k=>?_) (Ev.now _),?_⟩
    ·simp only[bM.l0];rw[if_pos (by omega),if_pos (by omega),if_pos (by omega),if_neg h1,if_pos h2]
    ·simp only[Bool.false_eq_true,false_iff];intro h;have:=h i (Nat.le_refl _) (by omega);omega
   ·obtain⟨b,he,hb⟩:=ih (i+1) (by omega);refine⟨b,Ev.step (f:=fun k=>bM.l0 k s (s.size:Int) ((i+1:Nat):Int)) (fun k=>?_) he,?_⟩
    ·simp only[bM.l0];rw[if_pos (by omega),if_pos (by omega),if_pos (by omega),if_neg h1,if_neg h2,fD (by omega) (by omega)];rfl
    ·rw[hb];refine⟨fun h j h3 h4=>?_,fun h j h3 h4=>h j (by omega) h4⟩;rcases Nat.eq_or_lt_of_le h3 with rfl|h5
     ·omega
     ·exact h j h5 h4
theorem xJ (s:ByteArray):∃b,Ev (fun k=>bM.f k s) b∧(b=true↔lU s):=by
 unfold bM.f
 by_cases h0:(s.size:Int)=0
 ·refine⟨false,Ev.congr (f:=fun k=>bM.j0 k s true) (fun k=>by rw[if_pos h0]) (Ev.step (f:=fun _=>some false) (fun k=>by simp[bM.j0]) (Ev.now _)),?_⟩;simp only[Bool.false_eq_true,false_iff];intro h;have:=h.1;omega
 by_cases h1:(s.size:Int)>600
 ·refine⟨false,Ev.congr (f:=fun k=>bM.j0 k s true) (fun k=>by rw[if_neg h0,if_pos h1]) (Ev.step (f:=fun _=>some false) (fun k=>by simp[bM.j0]) (Ev.now _)),?_⟩;simp only[Bool.false_eq_true,false_iff];intro h;have:=h.2.1;omega
 obtain⟨b,he,hb⟩:=Ro s (by omega) s.size 0 (by omega);have hb2:(b=true↔Num (bytesOf s)):=by rw[hb,C9];exact⟨fun h j hj=>h j (Nat.zero_le _) hj,fun h j _ hj=>h j hj⟩
 by_cases h2:bt s 0=48
 ·by_cases h3:s.size≤1
  ·refine⟨b,Ev.congr (f:=fun k=>bM.j0 k s false) (fun k=>?_) (Ev.step (f:=fun k=>bM.l0 k s (s.size:Int) 0) (fun k=>by simp[bM.j0]) he),?_⟩
   ·rw[if_neg h0,if_neg h1,if_pos (by omega),if_pos h2,show decide ((s.size:Int)>1)=false from decide_eq_false (by omega)]
   ·rw[hb2];exact⟨fun h=>⟨by omega,by omega,fun _=>h3,h⟩,fun h=>h.2.2.2⟩
  ·refine⟨false,Ev.congr (f:=fun k=>bM.j0 k s true) (fun k=>?_) (Ev.step (f:=fun _=>some false) (fun k=>by simp[bM.j0]) (Ev.now _)),?_⟩
   ·rw[if_neg h0,if_neg h1,if_pos (by omega),if_pos h2,show decide ((s.size:Int)>1)=true from decide_eq_true (by omega)]
   ·simp only[Bool.false_eq_true,false_iff];intro h;exact h3 (h.2.2.1 h2)
 ·refine⟨b,Ev.congr (f:=fun k=>bM.j0 k s false) (fun k=>?_) (Ev.step (f:=fun k=>bM.l0 k s (s.size:Int) 0) (fun k=>by simp[bM.j0]) he),?_⟩
  ·rw[if_neg h0,if_neg h1,if_pos (by omega),if_neg h2]
  ·rw[hb2];exact⟨fun h=>⟨by omega,by omega,fun h3=>absurd h3 h2,h⟩,fun h=>h.2.2.2⟩
theorem Fj (s:ByteArray)(hs:s.size≤1000000):∀(d i:Nat),i+d=s.size→∃b,Ev (fun k=>ay.l0 k s (i:Int)) b∧(b=true↔∀j:Nat,i≤j→j<s.size→48≤bt s (j:Int)∧bt s (j:Int)≤57):=by
 intro d
 induction d with
 |zero=>
  intro i hi;refine⟨true,Ev.step (f:=fun _=>some true) (fun k=>?_) (Ev.now _),?_⟩
  ·simp only[ay.l0];rw[if_neg (by omega)]
  ·simp;intro j h1 h2;omega
 |succ d ih=>
  intro i hi
  by_cases h1:bt s (i:Int)<48
  ·refine⟨false,Ev.step (f:=fun _=>some false) (fun k=>?_) (Ev.now _),?_⟩
   ·simp only[ay.l0];rw[if_pos (by omega),if_pos (by omega),if_pos h1]
   ·simp only[Bool.false_eq_true,false_iff];intro h;have:=h i (Nat.le_refl _) (by omega);omega
  ·by_cases h2:bt s (i:Int)>57
   ·refine⟨false,Ev.step (f:=fun _=>some false) (fun k=>?_) (Ev.now _),?_⟩
    ·simp only[ay.l0];rw[if_pos (by omega),if_pos (by omega),if_neg h1,if_pos h2]
    ·simp only[Bool.false_eq_true,false_iff];intro h;have:=h i (Nat.le_refl _) (by omega);omega
   ·obtain⟨b,he,hb⟩:=ih (i+1) (by omega);refine⟨b,Ev.step (f:=fun k=>ay.l0 k s ((i+1:Nat):Int)) (fun k=>?_) he,?_⟩
    ·simp only[ay.l0];rw[if_pos (by omega),if_pos (by omega),if_neg h1,if_neg h2,fD (by omega) (by omega)];rfl
    ·rw[hb];refine⟨fun h j h3 h4=>?_,fun h j h3 h4=>h j (by omega) h4⟩;rcases Nat.eq_or_lt_of_le h3 with rfl|h5
     ·omega
     ·exact h j h5 h4
theorem toList_nil (s:ByteArray):s.toList=([]:List UInt8)↔s.size=0:=by
 rw[ByteArray.toList_eq,←bV s];exact⟨fun h=>by rw[h];rfl,List.eq_nil_of_length_eq_zero⟩
theorem qO (s:ByteArray):∃b,Ev (fun k=>ed.f k s) b∧(b=true↔lU s):=by
 unfold ed.f
 by_cases h1:(s.size:Int)≤600
 case neg=>
  refine⟨false,Ev.congr (f:=fun _=>some false) (fun k=>by rw[if_neg h1]) (Ev.now _),?_⟩;simp only[Bool.false_eq_true,false_iff];intro h;have:=h.2.1;omega
 suffices hh:∃b,Ev (fun k=>ay.f k s) b∧(b=true↔lU s)by
  obtain⟨b,he,hb⟩:=hh;refine⟨b,Ev.congr (f:=fun k=>(ay.f k s).bind fun t=>some t) (fun k=>by rw[if_pos h1]) (Ev.bind he (Ev.now _)),hb⟩
 unfold ay.f
 by_cases h0:s.size=0
 ·refine⟨false,Ev.congr (f:=fun k=>ay.j0 k s true) (fun k=>by rw[if_pos ((toList_nil s).2 h0)]) (Ev.step (f:=fun _=>some false) (fun k=>by simp[ay.j0]) (Ev.now _)),?_⟩;simp only[Bool.false_eq_true,false_iff];intro h;have:=h.1;omega
 have hn:=fun h=>h0 ((toList_nil s).1 h)
 obtain⟨b,he,hb⟩:=Fj s (by omega) s.size 0 (by omega);have hb2:(b=true↔Num (bytesOf s)):=by rw[hb,C9];exact⟨fun h j hj=>h j (Nat.zero_le _) hj,fun h j _ hj=>h j hj⟩
 by_cases h2:bt s 0=48
 ·by_cases h3:s.size≤1
  ·refine⟨b,Ev.congr (f:=fun k=>ay.j0 k s false) (fun k=>?_) (Ev.step (f:=fun k=>ay.l0 k s 0) (fun k=>by simp[ay.j0]) he),?_⟩
   ·rw[if_neg hn,if_pos (by omega),if_pos h2,show decide ((s.size:Int)>1)=false from decide_eq_false (by omega)]
   ·rw[hb2];exact⟨fun h=>⟨by omega,by omega,fun _=>h3,h⟩,fun h=>h.2.2.2⟩
  ·refine⟨false,Ev.congr (f:=fun k=>ay.j0 k s true) (fun k=>?_) (Ev.step (f:=fun _=>some false) (fun k=>by simp[ay.j0]) (Ev.now _)),?_⟩
   ·rw[if_neg hn,if_pos (by omega),if_pos h2,show decide ((s.size:Int)>1)=true from decide_eq_true (by omega)]
   ·simp only[Bool.false_eq_true,false_iff];intro h;exact h3 (h.2.2.1 h2)
 ·refine⟨b,Ev.congr (f:=fun k=>ay.j0 k s false) (fun k=>?_) (Ev.step (f:=fun k=>ay.l0 k s 0) (fun k=>by simp[ay.j0]) he),?_⟩
  ·rw[if_neg hn,if_pos (by omega),if_neg h2]
  ·rw[hb2];exact⟨fun h=>⟨by omega,by omega,fun h3=>absurd h3 h2,h⟩,fun h=>h.2.2.2⟩
end Go.Proofs.YthbdjmopolpjmaaGreatDoor.M
namespace Go.Proofs.YthbdjmopolpjmaaGreatDoor.M
open Go.RowKit Go.Proofs.YthbdjmopolpjmaaGreatDoorW.PrintWords Go.Proofs.YthbdjmopolpjmaaGreatDoor.F Go.Proofs.YthbdjmopolpjmaaGreatDoorW.PrintMore
def Left (U V:Int)(n:Nat)(q:Int)(r:List Int):Prop:=0≤q∧q<4294967296∧gV 4294967296 r∧r.length=n+1∧U=q*V+val 4294967296 r∧val 4294967296 r<V
def Back (v u y:List Int)(low:Bool):Prop:=gV 4294967296 y∧y.length=v.length+1∧∃c:Int,(c=0∧low=true∨c=1∧low=false)∧val 4294967296 y+4294967296^(v.length+1)*c=val 4294967296 u+val 4294967296 v
theorem NQ {v:List Int}(hv:gV 4294967296 v)(hl:v.length<70368744177664)(u:List Int)(hu:gV 4294967296 u)(YN:u.length=v.length+1)(q:Int):
  ∀(d i:Nat) (x:List Int) (c:Int),i+d=v.length→x.length=v.length+1→gV 4294967296 x→x.drop i=u.drop i→0≤c→c≤1→val 4294967296 (x.take i)+4294967296^i*c=val 4294967296 (u.take i)+val 4294967296 (v.take i)→
  ∃y low,Back v u y low∧∀res,Ev (fun k=>aW.l1 k y v (v.length:Int) (IntKind.u64.wrap (q- 1)) low) res→Ev (fun k=>aW.l2 k x v (v.length:Int) q c v (v.length:Int) (i:Int)) res:=by
 intro d
 induction d with
 |zero=>
  intro i x c hi hxl hxd hdr h0 h1 hvv;obtain rfl:i=v.length:=by omega
  have bx:=gG hxd v.length (by simp;omega);have hrd:rd x v.length=rd u v.length:=pY (by omega) hdr;have hs:=zg (c+rd x v.length) (by omega) (by omega);have hc2:(c+rd x v.length)/4294967296=0∨(c+rd x v.length)/4294967296=1:=by omega
  refine⟨x.set v.length ((c+rd x v.length)%4294967296),(c+rd x v.length)/4294967296==0,⟨jF hxd _ ⟨hs.1,hs.2.1⟩,by simpa using hxl,(c+rd x v.length)/4294967296,?_,?_⟩,fun res hr=>Ev.step (fun k=>?_) hr⟩
  ·rcases hc2 with h|h<;>simp[h]
  ·have e1:val 4294967296 (x.set v.length ((c+rd x v.length)%4294967296))=val 4294967296 (x.take v.length)+4294967296^v.length*((c+rd x v.length)%4294967296):=by
    rw[←jV _ x v.length _ (by omega),List.take_of_length_le (by simp;omega)]
   have e2:val 4294967296 u=val 4294967296 (u.take v.length)+4294967296^v.length*rd u v.length:=by
    rw[←dP _ u v.length (by omega),List.take_of_length_le (by omega)]
   rw[e1,e2,Int.pow_succ,←hrd];rw[List.take_of_length_le (Nat.le_refl v.length)]at hvv;have h5:=hs.2.2.2.2;generalize(c+rd x v.length)%4294967296=lo at *;generalize(c+rd x v.length)/4294967296=hi at *;generalize(4294967296:Int)^v.length=P at *;grind
  ·simp only[aW.l2];rw[if_neg (by omega),if_pos (by omega),if_pos (by omega),u64 bx.1 (by omega),u64 (show 0≤c+rd x v.length by omega) (by omega),Int.toNat_natCast]
 |succ d ih=>
  intro i x c hi hxl hxd hdr h0 h1 hvv;have hiv:i<v.length:=by omega
  have bx:=gG hxd i (by simp;omega);have bv:=gG hv i (by simp;omega);have hrd:rd x i=rd u i:=pY (by omega) hdr;have hs:=zg (c+(rd x i+rd v i)) (by omega) (by omega)
  obtain⟨y,low,hb,he⟩:=ih (i+1) (x.set i ((c+(rd x i+rd v i))%4294967296)) ((c+(rd x i+rd v i))/4294967296) (by omega) (by simpa using hxl) (jF hxd i ⟨hs.1,hs.2.1⟩) (by rw[jZ];exact rY hdr) (by omega) (by omega) (by
   rw[jV _ x i _ (by omega),dP _ u i (by omega),dP _ v i hiv,Int.pow_succ,←hrd];have h5:=hs.2.2.2.2;generalize(c+(rd x i+rd v i))%4294967296=lo at *;generalize(c+(rd x i+rd v i))/4294967296=hi at *;generalize(4294967296:Int)^i=P at *
   grind)
  refine⟨y,low,hb,fun res hr=>Ev.step (fun k=>?_) (he res hr)⟩;simp only[aW.l2];rw[if_pos (by omega),if_pos (by omega),if_pos (by omega),if_pos (by omega),u64 bx.1 (by omega),u64 bv.1 (by omega),u64 (show 0≤rd x i+rd v i by omega) (by omega),u64 (show 0≤c+(rd x i+rd v i)by omega) (by omega),fD (by omega) (by omega),Int.toNat_natCast];rfl
theorem N7 {v:List Int}(hv:gV 4294967296 v)(hl:v.length<70368744177664)(U:Int)(hU:0≤U):∀(d:Nat) (q:Int) (x:List Int) (neg:Bool),q.toNat=d→0≤q→q<4294967296→gV 4294967296 x→x.length=v.length+1→U- q*val 4294967296 v<val 4294967296 v→
  val 4294967296 x=U- q*val 4294967296 v+(if neg then 4294967296^(v.length+1)else 0)→(neg=true→U- q*val 4294967296 v<0)→
  ∃q' r,Ev (fun k=>aW.l1 k x v (v.length:Int) q neg) (q',r)∧Left U (val 4294967296 v) v.length q' r:=by
 intro d
 induction d with
 |zero=>
  intro q x neg hq h0 h1 hxd hxl hV hval hneg;obtain rfl:q=0:=by omega
  cases neg with
  |true=>have:=hneg rfl;omega
  |false=>
   refine⟨0,x,Ev.step (f:=fun _=>some (0,x)) (fun k=>by simp[aW.l1]) (Ev.now _),by omega,by omega,hxd,hxl,?_,?_⟩<;>simp at hval⊢<;>omega
 |succ d ih=>
  intro q x neg hq h0 h1 hxd hxl hV hval hneg;cases neg with
  |false=>
   refine⟨q,x,Ev.step (f:=fun _=>some (q,x)) (fun k=>?_) (Ev.now _),by omega,by omega,hxd,hxl,?_,?_⟩
   ·simp only[aW.l1];rw[if_neg (by simp),Int.emod_eq_of_lt h0 h1]
   ·simp at hval;omega
   ·simp at hval;omega
  |true=>
   have hn:=hneg rfl;simp only[if_true]at hval;have uq:IntKind.u64.wrap (q- 1)=q- 1:=u64 (by omega) (by omega);have hm:(q- 1)*val 4294967296 v=q*val 4294967296 v- val 4294967296 v:=by rw[Int.sub_mul];omega
   have hvn:=dW (B:=4294967296) (by omega) hv;obtain⟨y,low,⟨hyd,hyl,c,hc,hy⟩,he⟩:=NQ hv hl x hxd hxl q v.length 0 x 0 (by omega) hxl hxd rfl (by omega) (by omega) (by simp[val]);have hlt:=lY (B:=4294967296) (by omega) hyd;have Na:=dW (B:=4294967296) (by omega) hyd;rw[hyl]at hlt;rw[uq]at he
   obtain⟨q',r,hq',hr⟩:=ih (q- 1) y low (by omega) (by omega) (by omega) hyd hyl (by omega) (by
    rcases hc with⟨rfl,rfl⟩|⟨rfl,rfl⟩
    ·simp only[if_true];omega
    ·simp;omega) (by
    rcases hc with⟨rfl,rfl⟩|⟨rfl,rfl⟩
    ·intro _;omega
    ·intro h;simp at h)
   refine⟨q',r,Ev.step (fun k=>?_) (he _ hq'),hr⟩;simp only[aW.l1,if_true];rfl
theorem Sl {v:List Int}(hv:gV 4294967296 v)(hl:v.length<70368744177664)(u:List Int)(hu:gV 4294967296 u)(YN:u.length=v.length+1)(q:Int)(hq0:0≤q)(hq:q<4294967296)(hbig:val 4294967296 u- q*val 4294967296 v<val 4294967296 v):
  ∀(d i:Nat) (x:List Int) (c b:Int),i+d=v.length→x.length=v.length+1→gV 4294967296 x→x.drop i=u.drop i→0≤c→c≤4294967295→0≤b→b≤1→val 4294967296 (x.take i)- 4294967296^i*(c+b)=val 4294967296 (u.take i)- q*val 4294967296 (v.take i)→
  ∃q' r,Ev (fun k=>aW.l0 k x v (v.length:Int) q c b v (v.length:Int) (i:Int)) (q',r)∧Left (val 4294967296 u) (val 4294967296 v) v.length q' r:=by
 intro d
 induction d with
 |zero=>
  intro i x c b hi hxl hxd hdr h0 h1 hb0 hb1 hvv;obtain rfl:i=v.length:=by omega
  have bx:=gG hxd v.length (by simp;omega);have hrd:rd x v.length=rd u v.length:=pY (by omega) hdr;have hw1:IntKind.u64.wrap (IntKind.u64.wrap (rd x v.length- c)- b)=(rd x v.length- c- b)%18446744073709551616:=by rw[IntKind.wrap_u64,IntKind.wrap_u64];omega
  have e2:val 4294967296 u=val 4294967296 (u.take v.length)+4294967296^v.length*rd u v.length:=by
   rw[←dP _ u v.length (by omega),List.take_of_length_le (by omega)]
  have hun:=dW (B:=4294967296) (by omega) hu;rw[List.take_of_length_le (Nat.le_refl v.length)]at hvv
  have e1:∀z,val 4294967296 (x.set v.length z)=val 4294967296 (x.take v.length)+4294967296^v.length*z:=fun z=>by
   rw[←jV _ x v.length _ (by omega),List.take_of_length_le (by simp;omega)]
  have eS:val 4294967296 u- q*val 4294967296 v=val 4294967296 (x.take v.length)+4294967296^v.length*(rd x v.length- c- b):=by
   rw[e2,←hrd];generalize(4294967296:Int)^v.length=P at *;grind
  have hxt:=dW (B:=4294967296) (by omega) (fK hxd v.length);have amh:=lY (B:=4294967296) (by omega) (fK hxd v.length);rw[List.length_take,Nat.min_eq_left (by omega)]at amh;have hP:=kJ (B:=4294967296) (by omega) v.length
  have go:=N7 hv hl (val 4294967296 u) hun q.toNat q (x.set v.length ((rd x v.length- c- b)%18446744073709551616%4294967296)) ((rd x v.length- c- b)%18446744073709551616/9223372036854775808==1) rfl hq0 hq (jF hxd _ (by omega)) (by simpa using hxl) hbig (by
   rw[e1,eS]
   by_cases hD:0≤rd x v.length- c- b
   ·have a1:(rd x v.length- c- b)%18446744073709551616%4294967296=rd x v.length- c- b:=by omega
    have a2:((rd x v.length- c- b)%18446744073709551616/9223372036854775808==1)=false:=by rw[beq_eq_false_iff_ne];omega
    rw[a1,a2];simp
   ·have a1:(rd x v.length- c- b)%18446744073709551616%4294967296=rd x v.length- c- b+4294967296:=by omega
    have a2:((rd x v.length- c- b)%18446744073709551616/9223372036854775808==1)=true:=by rw[beq_iff_eq];omega
    rw[a1,a2,if_pos rfl,Int.pow_succ];generalize(4294967296:Int)^v.length=P at *;grind) (by
   intro hneg;rw[beq_iff_eq]at hneg;have hD:rd x v.length- c- b≤-1:=by omega
   rw[eS];have:=Int.mul_le_mul_of_nonneg_left hD (Int.le_of_lt hP)
   omega)
  obtain⟨q',r,he,hr⟩:=go;refine⟨q',r,Ev.step (fun k=>?_) he,hr⟩;simp only[aW.l0];rw[if_neg (by omega),if_pos (by omega),if_pos (by omega),u64 bx.1 (by omega),hw1,Int.toNat_natCast]
 |succ d ih=>
  intro i x c b hi hxl hxd hdr h0 h1 hb0 hb1 hvv;have hiv:i<v.length:=by omega
  have bx:=gG hxd i (by simp;omega);have bv:=gG hv i (by simp;omega);have hrd:rd x i=rd u i:=pY (by omega) hdr;have bm:=yQ hq0 hq bv.1 bv.2;have hs:=zg (c+q*rd v i) (by omega) (by omega);have hhi:(c+q*rd v i)/4294967296≤4294967295:=by omega
  have hand:Go.bits .and .u64 (c+q*rd v i) 4294967295=(c+q*rd v i)%4294967296:=agm (by omega) (by omega);have hw1:IntKind.u64.wrap (IntKind.u64.wrap (rd x i- (c+q*rd v i)%4294967296)- b)=(rd x i- (c+q*rd v i)%4294967296- b)%18446744073709551616:=by rw[IntKind.wrap_u64,IntKind.wrap_u64];omega
  have hb':∃b',(rd x i- (c+q*rd v i)%4294967296- b)%18446744073709551616/9223372036854775808=b'∧0≤b'∧b'≤1∧(rd x i- (c+q*rd v i)%4294967296- b)%18446744073709551616%4294967296=rd x i- (c+q*rd v i)%4294967296- b+4294967296*b':=by
   refine⟨_,rfl,?_⟩;have:=hs.1;have:=hs.2.1;generalize(c+q*rd v i)%4294967296=lo at *;omega
  obtain⟨b',eb,b0',b1',ev⟩:=hb'
  obtain⟨q',r,he,hr⟩:=ih (i+1) (x.set i ((rd x i- (c+q*rd v i)%4294967296- b)%18446744073709551616%4294967296)) ((c+q*rd v i)/4294967296) b' (by omega) (by simpa using hxl) (jF hxd i (by omega)) (by rw[jZ];exact rY hdr) hs.2.2.1 hhi b0' b1' (by
   rw[jV _ x i _ (by omega),dP _ u i (by omega),dP _ v i hiv,Int.pow_succ,←hrd,ev];have h5:=hs.2.2.2.2;generalize(c+q*rd v i)%4294967296=lo at *;generalize(c+q*rd v i)/4294967296=hi at *;generalize(4294967296:Int)^i=P at *
   grind)
  refine⟨q',r,Ev.step (fun k=>?_) he,hr⟩;simp only[aW.l0];rw[if_pos (by omega),if_pos (by omega),if_pos (by omega),if_pos (by omega),u64 bx.1 (by omega),u64 bv.1 (by omega),u64 bm.1 (by omega),u64 (show 0≤c+q*rd v i by omega) (by omega),hand,hw1,eb,fD (by omega) (by omega),Int.toNat_natCast];rfl
theorem KJ {u v:List Int}(hu:gV 4294967296 u)(hv:gV 4294967296 v)(YN:u.length=v.length+1)(hvl:0<v.length)(hl:v.length<70368744177664)(htop:rd v ((v.length:Int)- 1)≠0)(hlt:val 4294967296 u<val 4294967296 v*4294967296):
  ∃q r,Ev (fun k=>aW.f k u v) (q,r)∧Left (val 4294967296 u) (val 4294967296 v) v.length q r:=by
 have bt:=gG hv ((v.length:Int)- 1) (by omega);have b1:=gG hu (v.length:Int) (by omega);have b0:=gG hu ((v.length:Int)- 1) (by omega);have hx0:0≤rd u v.length*4294967296+rd u ((v.length:Int)- 1):=by omega
 have hQ0:0≤(rd u v.length*4294967296+rd u ((v.length:Int)- 1))/rd v ((v.length:Int)- 1):=Int.ediv_nonneg hx0 bt.1
 have hQ1:(rd u v.length*4294967296+rd u ((v.length:Int)- 1))/rd v ((v.length:Int)- 1)<18446744073709551616:=
  Int.lt_of_le_of_lt (Int.ediv_le_self _ hx0) (by omega)
 have hn:((v.length- 1:Nat):Int)=(v.length:Int)- 1:=by omega
 have eu1:val 4294967296 u=val 4294967296 (u.take (v.length- 1))+4294967296^(v.length- 1)*(rd u v.length*4294967296+rd u ((v.length:Int)- 1)):=by
  have a1:=dP 4294967296 u v.length (by omega);rw[List.take_of_length_le (by omega)]at a1;have a2:=dP 4294967296 u (v.length- 1) (by omega);rw[show v.length- 1+1=v.length by omega,hn]at a2;rw[a1,a2];have:(4294967296:Int)^v.length=4294967296^(v.length- 1)*4294967296:=by rw[←Int.pow_succ];congr 1;omega
  rw[this];generalize(4294967296:Int)^(v.length- 1)=P;grind
 have ev1:val 4294967296 v=val 4294967296 (v.take (v.length- 1))+4294967296^(v.length- 1)*rd v ((v.length:Int)- 1):=by
  have a2:=dP 4294967296 v (v.length- 1) (by omega);rw[show v.length- 1+1=v.length by omega,hn,List.take_of_length_le (Nat.le_refl _)]at a2;exact a2
 have ult:=lY (B:=4294967296) (by omega) (fK hu (v.length- 1));rw[List.length_take,Nat.min_eq_left (by omega)]at ult;have vn:=dW (B:=4294967296) (by omega) (fK hv (v.length- 1));have hP:=kJ (B:=4294967296) (by omega) (v.length- 1);have hgt:=Int.lt_ediv_add_one_mul_self (rd u v.length*4294967296+rd u ((v.length:Int)- 1)) (show 0<rd v ((v.length:Int)- 1)by omega)
 have big:∀Q:Int,0≤Q→rd u v.length*4294967296+rd u ((v.length:Int)- 1)<(Q+1)*rd v ((v.length:Int)- 1)→val 4294967296 u- Q*val 4294967296 v<val 4294967296 v:=by
  intro Q hQ h;have h1:4294967296^(v.length- 1)*(rd u v.length*4294967296+rd u ((v.length:Int)- 1)+1)≤4294967296^(v.length- 1)*((Q+1)*rd v ((v.length:Int)- 1)):=Int.mul_le_mul_of_nonneg_left (by omega) (Int.le_of_lt hP);rw[Int.mul_add]at h1;have h2:=Int.mul_nonneg (show 0≤Q+1 by omega) vn
  have h3:(Q+1)*val 4294967296 v=(Q+1)*val 4294967296 (v.take (v.length- 1))+4294967296^(v.length- 1)*((Q+1)*rd v ((v.length:Int)- 1)):=by
   rw[ev1];generalize(4294967296:Int)^(v.length- 1)=P;grind
  have h4:(Q+1)*val 4294967296 v=Q*val 4294967296 v+val 4294967296 v:=by rw[Int.add_mul];omega
  rw[eu1];omega
 have hmn:∃Q,mn ((rd u v.length*4294967296+rd u ((v.length:Int)- 1))/rd v ((v.length:Int)- 1)) 4294967295=Q∧0≤Q∧Q<4294967296∧val 4294967296 u- Q*val 4294967296 v<val 4294967296 v:=by
  refine⟨_,rfl,?_⟩;unfold mn;split
  ·refine⟨by omega,by omega,?_⟩;have:val 4294967296 v*4294967296=4294967295*val 4294967296 v+val 4294967296 v:=by omega
   omega
  ·exact⟨hQ0,by omega,big _ hQ0 hgt⟩
 obtain⟨Q,eQ,q0,q1,qb⟩:=hmn;obtain⟨q,r,he,hr⟩:=Sl hv hl u hu YN Q q0 q1 qb v.length 0 u 0 0 (by omega) YN hu rfl (by omega) (by omega) (by omega) (by omega) (by simp[val]);refine⟨q,r,Ev.congr (fun k=>?_) he,hr⟩;unfold aW.f;rw[fD (by omega) (by omega),if_pos (by omega),if_pos (by omega),if_pos (by omega),if_pos (by omega),if_pos (by omega),u64 bt.1 (by omega),if_neg htop,u64 b1.1 (by omega),u64 b0.1 (by omega),u64 (show 0≤rd u v.length*4294967296 by omega) (by omega),adx b1.1 b1.2 b0.1 b0.2,Int.tdiv_eq_ediv_of_nonneg hx0,u64 hQ0 hQ1,eQ];rfl
structure tZ (U:Int)(v:List Int)(n m:Nat)(z q:List Int):Prop where
 zl:z.length=n+v.length
 zd:gV 4294967296 z
 ql:q.length=n
 qd:gV 4294967296 q
 hm:m≤n
 low:val 4294967296 (z.drop m)<val 4294967296 v
 zero:val 4294967296 (z.drop (m+v.length))=0
 sum:U=val 4294967296 z+4294967296^m*(val 4294967296 (q.drop m)*val 4294967296 v)
def win (z:List Int)(m l:Nat):List Int:=(z.drop m).take (l+1)
theorem QP {z:List Int}{m l:Nat}(h:m+l+1≤z.length):(win z m l).length=l+1:=by unfold win;rw[List.length_take,List.length_drop];omega
theorem aaz {z:List Int}{m l j:Nat}(h:m+l+1≤z.length)(hj:j<l+1):(win z m l).getD j 0=z.getD (m+j) 0:=by
 unfold win;simp[List.getElem?_take,hj,List.getElem?_drop]
theorem tZ.window {U:Int}{v:List Int}{n m:Nat}{z q:List Int}(h:tZ U v n (m+1) z q)(hv:gV 4294967296 v):
  gV 4294967296 (win z m v.length)∧val 4294967296 (win z m v.length)<val 4294967296 v*4294967296∧val 4294967296 (z.drop m)=val 4294967296 (win z m v.length):=by
 have hz:=h.zl;have hm:=h.hm;have hcut:=lF 4294967296 (z.drop m) (v.length+1) (by rw[List.length_drop];omega);rw[List.drop_drop]at hcut;have e:m+(v.length+1)=m+1+v.length:=by omega
 rw[e,h.zero]at hcut;have hw:val 4294967296 (z.drop m)=val 4294967296 (win z m v.length):=by rw[hcut];unfold win;omega
 refine⟨fK (lX h.zd m) _,?_,hw⟩;rw[←hw,kP z m (by omega)];have b:=gG h.zd m (by simp;omega);have hl:=h.low;simp only[val];have:=Int.mul_le_mul_of_nonneg_left (show val 4294967296 (z.drop (m+1))≤val 4294967296 v- 1 by omega) (show(0:Int)≤4294967296 by omega);omega
theorem tZ.step {U:Int}{v:List Int}{n m:Nat}{z q:List Int}(h:tZ U v n (m+1) z q)(hv:gV 4294967296 v){x:Int}{r:List Int}(hL:Left (val 4294967296 (win z m v.length)) (val 4294967296 v) v.length x r):
  tZ U v n m (z.take m++r++z.drop (m+v.length+1)) (q.set m x):=by
 obtain⟨x0,x1,rdg,rl,hU,hr⟩:=hL;have hz:=h.zl;have hm:=h.hm;have hq:=h.ql;have hwin:=(h.window hv).2.2;have htl:(z.take m).length=m:=by rw[List.length_take];omega
 have hzero:=h.zero;rw[show m+1+v.length=m+v.length+1 by omega]at hzero
 have hdm:(z.take m++r++z.drop (m+v.length+1)).drop m=r++z.drop (m+v.length+1):=by
  rw[List.append_assoc,List.drop_append_of_le_length (by omega),List.drop_of_length_le (by omega),List.nil_append]
 have htm:(z.take m++r++z.drop (m+v.length+1)).take m=z.take m:=by
  rw[List.append_assoc,List.take_append_of_le_length (by omega),List.take_of_length_le (by omega)]
 have hvd:val 4294967296 (r++z.drop (m+v.length+1))=val 4294967296 r:=by rw[val_append,hzero];omega
 have asj:=lY (B:=4294967296) (by omega) hv;refine⟨by simp[rl];omega,?_,by simpa using hq,jF h.qd m ⟨x0,x1⟩,by omega,?_,?_,?_⟩
 ·rw[List.append_assoc,pg,pg];exact⟨fK h.zd m,rdg,lX h.zd _⟩
 ·rw[hdm,hvd];exact hr
 ·have e:(z.take m++r++z.drop (m+v.length+1)).drop (m+v.length)=r.drop v.length++z.drop (m+v.length+1):=by
   rw[←List.drop_drop,hdm,List.drop_append_of_le_length (by omega)]
  rw[e,val_append,hzero];have hc:=lF 4294967296 r v.length (by omega);have n1:=dW (B:=4294967296) (by omega) (fK rdg v.length);have n2:=dW (B:=4294967296) (by omega) (lX rdg v.length);have hp:=kJ (B:=4294967296) (by omega) v.length
  have hz0:val 4294967296 (r.drop v.length)=0:=by
   by_cases hpos:1≤val 4294967296 (r.drop v.length)
   ·have:=Int.mul_le_mul_of_nonneg_left hpos (Int.le_of_lt hp);omega
   ·omega
  rw[hz0];omega
 ·have c1:=lF 4294967296 (z.take m++r++z.drop (m+v.length+1)) m (by simp;omega);rw[hdm,htm,hvd]at c1;have c0:=lF 4294967296 z m (by omega);rw[hwin]at c0
  have hd:val 4294967296 ((q.set m x).drop m)=x+4294967296*val 4294967296 (q.drop (m+1)):=by
   rw[kP (q.set m x) m (by simp;omega),jZ];simp only[val];rw[qE q m x (by omega)]
  rw[hd];have hs:=h.sum;rw[c0,hU,Int.pow_succ]at hs;rw[c1,hs];generalize val 4294967296 (q.drop (m+1))=Q;generalize(4294967296:Int)^m=P;generalize val 4294967296 (z.take m)=Z;generalize val 4294967296 r=R;generalize val 4294967296 v=V;grind
theorem Rq {a b u v':List Int}{s:Nat}(wa:gV 4294967296 a)(wb:gV 4294967296 b)(ta:Trim a)(tb:Trim b)(hb:b≠[])(hge:val 4294967296 b≤val 4294967296 a)(hs:s<32)
  (htop:(rd b ((b.length:Int)- 1)+1)*2^s≤4294967296) (hud:gV 4294967296 u) (YN:u.length=a.length+1) (hu:val 4294967296 u=val 4294967296 a*2^s)
  (hvd:gV 4294967296 v') (hvl:v'.length=b.length+1) (hv:val 4294967296 v'=val 4294967296 b*2^s):
  (v'.take b.length).length=b.length∧gV 4294967296 (v'.take b.length)∧val 4294967296 (v'.take b.length)=val 4294967296 b*2^s∧rd (v'.take b.length) ((b.length:Int)- 1)≠0∧b.length≤a.length∧
   tZ (val 4294967296 a*2^s) (v'.take b.length) (a.length+1- b.length) (a.length+1- b.length) u (List.replicate (a.length+1- b.length) 0):=by
 have hp:=lH s hs;have hbl:0<b.length:=List.length_pos_iff.2 hb;have hlen:=qM (B:=4294967296) (by omega) wa wb tb hge;generalize hT:(2:Int)^s=T at *;have hn:((b.length- 1:Nat):Int)=(b.length:Int)- 1:=by omega
 have hbc:val 4294967296 b=val 4294967296 (b.take (b.length- 1))+4294967296^(b.length- 1)*rd b ((b.length:Int)- 1):=by
  have:=dP 4294967296 b (b.length- 1) (by omega);rw[show b.length- 1+1=b.length by omega,hn,List.take_of_length_le (Nat.le_refl _)]at this;exact this
 have hblt:=lY (B:=4294967296) (by omega) (fK wb (b.length- 1));rw[List.length_take,Nat.min_eq_left (by omega)]at hblt;have hPp:=kJ (B:=4294967296) (by omega) (b.length- 1);have hPe:(4294967296:Int)^b.length=4294967296^(b.length- 1)*4294967296:=by rw[←Int.pow_succ];congr 1;omega
 have hsmall:val 4294967296 b*T<4294967296^b.length:=by
  have h1:val 4294967296 b+1≤4294967296^(b.length- 1)*(rd b ((b.length:Int)- 1)+1):=by rw[Int.mul_add];omega
  have h2:(val 4294967296 b+1)*T≤4294967296^(b.length- 1)*(rd b ((b.length:Int)- 1)+1)*T:=Int.mul_le_mul_of_nonneg_right h1 (by omega);have h3:4294967296^(b.length- 1)*((rd b ((b.length:Int)- 1)+1)*T)≤4294967296^(b.length- 1)*4294967296:=Int.mul_le_mul_of_nonneg_left htop (Int.le_of_lt hPp);rw[Int.mul_assoc]at h2;rw[Int.add_mul]at h2;rw[hPe];omega
 have hcut:=lF 4294967296 v' b.length (by omega);have n1:=dW (B:=4294967296) (by omega) (fK hvd b.length);have n2:=dW (B:=4294967296) (by omega) (lX hvd b.length);have hPb:=kJ (B:=4294967296) (by omega) b.length
 have hz0:val 4294967296 (v'.drop b.length)=0:=by
  by_cases hpos:1≤val 4294967296 (v'.drop b.length)
  ·have:=Int.mul_le_mul_of_nonneg_left hpos (Int.le_of_lt hPb);omega
  ·omega
 rw[hz0]at hcut;have hvt:val 4294967296 (v'.take b.length)=val 4294967296 b*T:=by omega
 have ahl:(v'.take b.length).length=b.length:=by rw[List.length_take];omega
 have alG:=uQ (B:=4294967296) (by omega) wb tb hb
 have hb1:val 4294967296 b≤val 4294967296 b*T:=by
  have:=Int.mul_le_mul_of_nonneg_left (show 1≤T by omega) (show 0≤val 4294967296 b by omega);omega
 have vtd:=fK hvd b.length;refine⟨ahl,vtd,hvt,?_,hlen,?_⟩
 ·intro h0
  have hc2:val 4294967296 (v'.take b.length)=val 4294967296 ((v'.take b.length).take (b.length- 1))+4294967296^(b.length- 1)*rd (v'.take b.length) ((b.length:Int)- 1):=by
   have:=dP 4294967296 (v'.take b.length) (b.length- 1) (by omega);rw[show b.length- 1+1=b.length by omega,hn,List.take_of_length_le (by omega)]at this;exact this
  have hlt:=lY (B:=4294967296) (by omega) (fK vtd (b.length- 1));rw[List.length_take,Nat.min_eq_left (by omega)]at hlt;rw[h0]at hc2;omega
 ·have hdl:(List.replicate (a.length+1- b.length) (0:Int)).drop (a.length+1- b.length)=[]:=by simp
  refine⟨by omega,hud,by simp,jA (by omega) _,Nat.le_refl _,?_,?_,?_⟩
  ·
   rw[hvt];have hc:=lF 4294967296 u (a.length+1- b.length) (by omega);have m1:=dW (B:=4294967296) (by omega) (fK hud (a.length+1- b.length));have halt:=lY (B:=4294967296) (by omega) wa;have hPd:=kJ (B:=4294967296) (by omega) (a.length+1- b.length)
   by_cases hlt:val 4294967296 (u.drop (a.length+1- b.length))<val 4294967296 b*T
   ·exact hlt
   ·exfalso
    have g1:4294967296^(b.length- 1)*T≤val 4294967296 b*T:=Int.mul_le_mul_of_nonneg_right alG (by omega);have g2:4294967296^(a.length+1- b.length)*(4294967296^(b.length- 1)*T)≤4294967296^(a.length+1- b.length)*val 4294967296 (u.drop (a.length+1- b.length)):=Int.mul_le_mul_of_nonneg_left (by omega) (Int.le_of_lt hPd);have g3:(4294967296:Int)^(a.length+1- b.length)*4294967296^(b.length- 1)=4294967296^a.length:=by rw[←Int.pow_add];congr 1;omega
    rw[←Int.mul_assoc,g3]at g2;have g4:(val 4294967296 a+1)*T≤4294967296^a.length*T:=Int.mul_le_mul_of_nonneg_right (by omega) (by omega);rw[Int.add_mul]at g4;omega
  ·rw[ahl,List.drop_of_length_le (by omega)];rfl
  ·rw[hdl,hu];simp[val]
theorem Zm {U:Int}{v z q:List Int}{n:Nat}(h:tZ U v n 0 z q):U=val 4294967296 q*val 4294967296 v+val 4294967296 (z.take v.length)∧val 4294967296 (z.take v.length)<val 4294967296 v:=by
 have hz:=h.zl;have hc:=lF 4294967296 z v.length (by omega);have h0:=h.zero;rw[Nat.zero_add]at h0;rw[h0]at hc;have hl:=h.low;have hs:=h.sum;simp only[List.drop_zero,Int.pow_zero,Int.one_mul]at hl hs;exact⟨by omega,by omega⟩
theorem PD {t:Int}(h0:0<t)(h1:t<4294967296):∃s:Nat,s<32∧(32- (Lib.bitLen t.toNat:Int))=(s:Int)∧(t+1)*2^s≤4294967296:=by
 have hb:=Lib.bitLenAux_bounds 64 t.toNat (by omega) (by omega);have hle:=Lib.bitLen_le t.toNat 32 (by omega) (by omega);have he:Lib.bitLenAux 64 t.toNat=Lib.bitLen t.toNat:=rfl;rw[he]at hb;refine⟨32- Lib.bitLen t.toNat,by omega,by omega,?_⟩;have h2:t+1≤((2^Lib.bitLen t.toNat:Nat):Int):=by omega
 have h3:(0:Int)<2^(32- Lib.bitLen t.toNat):=Int.pow_pos (by omega);have h4:(t+1)*2^(32- Lib.bitLen t.toNat)≤((2^Lib.bitLen t.toNat:Nat):Int)*2^(32- Lib.bitLen t.toNat):=Int.mul_le_mul_of_nonneg_right h2 (Int.le_of_lt h3)
 have h5:((2^Lib.bitLen t.toNat:Nat):Int)*2^(32- Lib.bitLen t.toNat)=4294967296:=by
  have:((2^Lib.bitLen t.toNat:Nat):Int)=(2:Int)^Lib.bitLen t.toNat:=by simp
  rw[this,←Int.pow_add,show Lib.bitLen t.toNat+(32- Lib.bitLen t.toNat)=32 by omega];decide
 omega
end Go.Proofs.YthbdjmopolpjmaaGreatDoor.M
namespace Go.Proofs.YthbdjmopolpjmaaGreatDoor.C
open Go.RowKit Go.Proofs.YthbdjmopolpjmaaGreatDoorW.PrintWords Go.Proofs.YthbdjmopolpjmaaGreatDoorW.PrintLast Go.Proofs.YthbdjmopolpjmaaGreatDoorW.PrintMore Go.Proofs.YthbdjmopolpjmaaGreatDoor.F Go.Proofs.YthbdjmopolpjmaaGreatDoor.M
def Ty (W:World)(t:TypeId)(k:Nat):Prop:=∃cells,W.heap[k]?=some (.cells cells t (0,0))
def U (W:World)(A:Option Addr)(xs:List Int):Prop:=Kd.F (Kd.int .u32) W (Ty W 131) A xs.length xs
theorem U.now {W:World}{A:Option Addr}{xs:List Int}(h:U W A xs):Kd.C (Kd.int .u32) W A xs.length xs:=Kd.aaD h
theorem U.step {W W1:World}{A:Option Addr}{xs:List Int}(h:U W A xs)(hm:∀k,Ty W 131 k→W1.heap[k]?=W.heap[k]?):U W1 A xs:=by
 refine Kd.Np (Kd.TW h (fun k hk _=>hm k hk)) (fun k hk=>?_);obtain⟨c,hc⟩:=hk;exact⟨c,(hm k ⟨c,hc⟩).trans hc⟩
theorem Ty.lt {W:World}{t k:Nat}(h:Ty W t k):k<W.heap.size:=by
 obtain⟨c,hc⟩:=h;exact dV hc
theorem U.below {W W1:World}{A:Option Addr}{xs:List Int}(h:U W A xs)(hb:Below W.heap.size W W1):U W1 A xs:=h.step fun k hk=>hb.block k hk.lt
theorem U.grown {W W1:World}{A:Option Addr}{xs:List Int}{g t:Nat}{cs:Array Value}(h:U W A xs)(hg:W.grownBy W1 (some g))(hb:W.heap[g]?=some (.cells cs t (0,0)))(ht:t≠131):U W1 A xs:=
 h.step fun k hk=>by
  refine hg.block k hk.lt (fun e=>?_);injection e with e;subst e;obtain⟨c,hc⟩:=hk;rw[hc]at hb;injection hb with hb;injection hb with _ hb;exact ht hb.symm
theorem U.drewN {W:World}{A:Option Addr}{xs:List Int}(h:U W A xs)(m:Nat):U (W.drewN m) A xs:=h.below (ai (Below.refl _ _) m)
theorem U.drawn {W W1:World}{A:Option Addr}{xs:List Int}(h:U W A xs)(hd:aJ W W1):U W1 A xs:=h.below hd.below
theorem U.nil (W:World):U W none []:=Kd.aaC (Kd.int .u32) W _
theorem U.take {W:World}{A:Option Addr}{xs:List Int}(h:U W A xs){m:Nat}(hm:m≤xs.length):U W A (xs.take m):=Kd.Nq h hm
theorem U.E5 {W:World}{base:Nat}{ok:Nat→Prop}{v:Value}{xs:List Int}(h:Kd.R (Kd.int .u32) 131 W base ok v xs):∃A c,v= .slice A xs.length c∧xs.length≤c∧U W A xs:=by
 obtain⟨A,c,rfl,hc,_⟩:=Kd.jE h;refine⟨A,c,rfl,hc,Kd.Np (Kd.R_F (Kd.jS h)) (fun k hk=>?_)⟩;obtain⟨_,_,_,q,hq,cells,hcell⟩:=hk;have:q=131:=by simpa[Kd.int,Kd.scalar]using hq
 subst this;exact⟨cells,hcell⟩
structure gm (S:Nat→Prop)(w w':World):Prop where
 os:w'.os=w.os
 tape:w'.tape=w.tape
 output:w'.output=w.output
 size:w.heap.size≤w'.heap.size
 block:∀i,i<w.heap.size→¬S i→w'.heap[i]?=w.heap[i]?
theorem gm.of_below {S:Nat→Prop}{w w':World}(h:Below w.heap.size w w'):gm S w w':=⟨h.os,h.tape,h.output,h.size,fun i hi _=>h.block i hi⟩
theorem gm.refl (S:Nat→Prop)(w:World):gm S w w:=gm.of_below (Below.refl _ _)
theorem gm.trans {S S2:Nat→Prop}{w w1 w2:World}(h:gm S w w1)(k:gm S2 w1 w2)(hs:∀i,i<w.heap.size→S2 i→S i):gm S w w2:=
 ⟨k.os.trans h.os,k.tape.trans h.tape,k.output.trans h.output,Nat.le_trans h.size k.size,fun i hi hn=>(k.block i (Nat.lt_of_lt_of_le hi h.size) (fun h2=>hn (hs i hi h2))).trans (h.block i hi hn)⟩
theorem gm.below {S:Nat→Prop}{w w':World}(h:gm S w w')(hs:∀i,S i→w.heap.size≤i):Below w.heap.size w w':=⟨h.os,h.tape,h.output,h.size,fun i hi=>h.block i hi (fun hk=>by have:=hs i hk;omega)⟩
theorem gm.mono {S S2:Nat→Prop}{w w':World}(h:gm S w w')(hs:∀i,i<w.heap.size→S i→S2 i):gm S2 w w':=⟨h.os,h.tape,h.output,h.size,fun i hi hn=>h.block i hi (fun hk=>hn (hs i hi hk))⟩
theorem gm.blk {S:Nat→Prop}{w w':World}{g:Nat}{o:Obj}(h:gm S w w')(hb:w.heap[g]?=some o)(hs:¬S g):w'.heap[g]?=some o:=(h.block g (dV hb) hs).trans hb
theorem gm.setCell {S:Nat→Prop}{w w':World}(h:gm S w w')(p:Addr)(hp:S p.block∨w.heap.size≤p.block)(v:Value):gm S w (w'.setCell p v):=by
 refine⟨?_,?_,?_,?_,fun i hi hn=>?_⟩
 ·rw[←h.os];unfold World.setCell;split<;>rfl
 ·rw[←h.tape];unfold World.setCell;split<;>rfl
 ·rw[←h.output];unfold World.setCell;split<;>rfl
 ·have:=h.size;simp;omega
 ·have hne:i≠p.block:=by
   intro e;subst e;rcases hp with hp|hp
   ·exact hn hp
   ·omega
  exact(Below.heap_setCell w' p v i hne).trans (h.block i hi hn)
theorem gm.alloc {S:Nat→Prop}{w w':World}(h:gm S w w')(o:Obj):gm S w (w'.alloc o):=h.trans (S2:=fun _=>False) (gm.of_below (ag (Below.refl _ _) o)) (fun _ _ h=>h.elim)
theorem gm.drewN {S:Nat→Prop}{w w':World}(h:gm S w w')(m:Nat):gm S w (w'.drewN m):=h.trans (S2:=fun _=>False) (gm.of_below (ai (Below.refl _ _) m)) (fun _ _ h=>h.elim)
theorem gm.drew {S:Nat→Prop}{w w':World}(h:gm S w w'):gm S w w'.drew:=h.trans (S2:=fun _=>False) (gm.of_below (dB (Below.refl _ _))) (fun _ _ h=>h.elim)
theorem gm.PN {S:Nat→Prop}{w w1 w2:World}(h:gm S w w1)(hb:Below w1.heap.size w1 w2):gm S w w2:=h.trans (S2:=fun _=>False) (gm.of_below hb) (fun _ _ h=>h.elim)
theorem U.qj {S:Nat→Prop}{W W1:World}{A:Option Addr}{xs:List Int}(h:U W A xs)(hc:gm S W W1)(hs:∀k,S k→k<W.heap.size→¬Ty W 131 k):U W1 A xs:=
 h.step fun k hk=>hc.block k hk.lt (fun hS=>hs k hS hk.lt hk)
theorem Ha {W:World}{t t' k:Nat}{cs:Array Value}(hb:W.heap[k]?=some (.cells cs t (0,0)))(ht:t≠t'):¬Ty W t' k:=by
 rintro⟨c,hc⟩;rw[hc]at hb;injection hb with hb;injection hb with _ hb;exact ht hb.symm
def num (neg:Bool)(xs:List Int):Int:=if neg then- val 4294967296 xs else val 4294967296 xs
def Wd (xs:List Int):Prop:=gV 4294967296 xs∧Trim xs∧xs.length≤1000000
def iy (W:World)(g:Nat)(neg:Bool)(xs:List Int):Prop:=∃A c,W.heap[g]?=some (.cells #[.bool neg,.slice A xs.length c] 173 (0,0))∧xs.length≤c∧U W A xs
def rH (W:World)(g o:Nat)(neg:Bool)(xs:List Int):Prop:=∃A c,W.cell? ⟨g,o,none⟩=some (.bool neg)∧W.cell? ⟨g,o+1,none⟩=some (.slice A xs.length c)∧xs.length≤c∧U W A xs
theorem iy.c {W:World}{g:Nat}{neg:Bool}{xs:List Int}(h:iy W g neg xs):rH W g 0 neg xs:=by
 obtain⟨A,c,hb,hc,hu⟩:=h;exact⟨A,c,(aj hb 0).trans rfl,(aj hb 1).trans rfl,hc,hu⟩
theorem iy.qj {S:Nat→Prop}{W W1:World}{g:Nat}{neg:Bool}{xs:List Int}(h:iy W g neg xs)(hc:gm S W W1)(hg:¬S g)(hs:∀k,S k→k<W.heap.size→¬Ty W 131 k):iy W1 g neg xs:=by
 obtain⟨A,c,hb,hcc,hu⟩:=h;exact⟨A,c,hc.blk hb hg,hcc,hu.qj hc hs⟩
theorem iy.below {W W1:World}{g:Nat}{neg:Bool}{xs:List Int}(h:iy W g neg xs)(hb:Below W.heap.size W W1):iy W1 g neg xs:=h.qj (S:=fun _=>False) (gm.of_below hb) (fun h=>h) (fun _ h=>h.elim)
theorem iy.lt {W:World}{g:Nat}{neg:Bool}{xs:List Int}(h:iy W g neg xs):g<W.heap.size:=by
 obtain⟨A,c,hb,_⟩:=h;exact dV hb
theorem iy.XJ {W:World}{g:Nat}{neg:Bool}{xs:List Int}(h:iy W g neg xs):¬Ty W 131 g:=by
 obtain⟨A,c,hb,_⟩:=h;exact Ha hb (by decide)
theorem rH.below {W W1:World}{g o:Nat}{neg:Bool}{xs:List Int}(h:rH W g o neg xs)(hb:Below W.heap.size W W1):rH W1 g o neg xs:=by
 obtain⟨A,c,h0,h1,hc,hu⟩:=h;exact⟨A,c,aI hb h0,aI hb h1,hc,hu.below hb⟩
theorem F5 (A:Option Addr)(c:Nat)(xs:List Int)(w:World)(hC:Kd.C (Kd.int .u32) w A xs.length xs)(hl:xs.length≤35184372088831):
  Calls Tryz.prog 161 #[.slice A xs.length c] w fun e w'=>∃A' c',e= .returned (.slice A' xs.length c')∧xs.length≤c'∧U w' A' xs∧Below w.heap.size w w':=by
 have hnil:=fun(w:World) (a:Option Addr) (n c:Nat)=>Lib.run_eql_slice_nil (P:=Tryz.prog) w 171 131 a n c 0 0 Tryz.underlying171
 have HC:=zM hC;have HL:=zM hl;clear hC hl;cases A with
 |none=>
  have hx:xs=[]:=by
   have h:=HC.out.2.2;rcases Nat.eq_zero_or_pos xs.length with h0|h0
   ·exact List.eq_nil_of_length_eq_zero h0
   ·obtain⟨ad,e,_⟩:=h h0;cases e
  subst hx;go_enter Tryz.func161,Tryz.ntmps161;go_wp2;go_ret;exact⟨none,0,rfl,Nat.le_refl _,U.nil _,Below.refl _ _⟩
 |some ad=>
  have HR:=zM (show Kd.R (Kd.int .u32) 131 (w.alloc (.cells #[] 131)) w.heap.size (fun _=>True) (.slice (some ⟨w.heap.size,0,none⟩) 0 0) []from
   Kd.iR (by simpa[encs,nums]using I5 w w.heap.size 131 .u32 [] (Nat.le_refl _) (by simp)) (fun _ _=>trivial))
  have MV:=zM (Kd.ji HC.out (ag (Below.refl _ _) (.cells #[] 131)));have HB1:=zM (ag (Below.refl w.heap.size w) (.cells #[] 131));go_enter Tryz.func161,Tryz.ntmps161;go_wp2_with ((with_reducible refine bK (b:= .append) (xs:= #[.tmp 5,.tmp 6]) rfl ?_);at_builtin;refine Kd.Ie (Value.int .u32) (0:Int) (w0:=w) w.heap.size rfl (.tmp 5) (.tmp 6) 171 131 (.int .u32 0) 4 rfl Tryz.underlying171 kQ rfl (by decide) (.slice (some ⟨w.heap.size,0,none⟩) 0 0) [] xs (some ad) xs.length c (fun _=>True) rfl rfl (fun _ _=>trivial) HR.out MV.out HB1.out (by simp) (by have:=HL.out;simp;omega) ?_;intro v1 w1 hR1 hB1 hg1 V8;clear HR MV HB1);go_ret;obtain⟨A',c',rfl,h1,h2⟩:=U.E5 hR1;exact⟨A',c',rfl,h1,h2,hB1⟩
theorem Tz (k:Nat)(A0:Option Addr)(c0:Nat)(l0:List Int)(r:List Int)(w:World)(hC0:Kd.C (Kd.int .u32) w A0 l0.length l0)(hc0:l0.length≤c0)(h:dh.f k l0=some r):
  Calls Tryz.prog 206 #[.slice A0 l0.length c0] w fun e w'=>e= .returned (.slice A0 r.length c0)∧Below w.heap.size w w':=by
 have zC:=zM hC0;have Hw:=zM hc0;have HB:=zM (Below.refl w.heap.size w);have H':=zM (show dh.l0 k l0=some r from h);clear h hC0 hc0;go_enter Tryz.func206,Tryz.ntmps206;go_wp2;go_loopg [0] k (fun kq v0 w'=>∃(aU:List Int),v0= .slice A0 aU.length c0∧Aside0 (dh.l0 kq aU=some r)∧Aside0 (kq≤k)∧Aside0 (Kd.C (Kd.int .u32) w' A0 aU.length aU)∧Aside0 (aU.length≤c0)∧Aside0 (Below w.heap.size w w'))
 case atStart=>exact⟨l0,rfl,H',⟨Nat.le_refl _⟩,zC,Hw,HB⟩
 case round=>
  clear H' zC;obtain⟨aU,rfl,HA,fM,bF,JB,HB⟩:=hrel;cases gk with
  |zero=>exact absurd HA.out (by simp[dh.l0])
  |succ k1=>
   have H:=HA.out;clear HA;simp only[dh.l0]at H
   by_cases c2:(aU.length:Int)>0
   ·rw[if_pos c2]at H;have kE:=zT c2;have xw:decide (0<aU.length)=true:=decide_eq_true (by omega);have hmax:=Kd.TV bF.out;have hw:wrap64 ((aU.length:Int)- 1)=(aU.length:Int)- 1:=fD (by omega) (by omega);rw[hw,if_pos (by omega),if_pos (by omega)]at H;obtain⟨gX,kz⟩:=zI ((aU.length:Int)- 1);rw[kz]at H;have Gv:(IntKind.i64.wrap ((aU.length:Int)- 1))=gX:=(dL _).trans (hw.trans kz);have abk:wrap64 ((aU.length:Int)- 1)=gX:=hw.trans kz;have l9:0≤gX:=by omega
    have oI:gX<(aU.length:Int):=by omega
    have hjle:gX≤(aU.length:Int):=by omega
    have Hji:=zM kz;clear c2 hmax hw kz;obtain⟨wH,IA,CW⟩:=Kd.dM bF.out gX l9 oI;cases IA
    by_cases c6:(rd aU gX)=0
    ·rw[if_pos c6,if_pos hjle]at H;have iP:((rd aU (gX))==0)=true:=beq_iff_eq.mpr c6;have og:((rd aU (gX)) !=0)=false:=bne_eq_false_iff_eq.mpr c6;clear c6;obtain⟨tY,pR⟩:∃y_:List Int,y_=(aU.take (gX:Int).toNat):=⟨_,rfl⟩;rw[←pR]at H;have uh:=zM pR;clear pR;have H':=zM H;clear H;obtain⟨Xo,oL,_,wO,_⟩:=info_parts kQ;have sD:=xy (P:=Tryz.prog) 171 131 .i64 Tryz.underlying171 oL (some wH) aU.length c0 gX l9 hjle JB.out;have vZ:=zM (Kd.Dl bF.out (m:=gX.toNat) (by omega));have sN:tY.length=(gX:Int).toNat:=(by rw[uh.out,List.length_take];omega);rw[←uh.out]at vZ;rw[←sN]at sD;have FD:=zM (show tY.length≤c0 from by have:=JB.out;omega);have Y6:=zM sN;clear sN oL wO;replace l9:=eq_true l9;replace oI:=eq_true oI;replace hjle:=eq_true hjle;go_wp2;go_roundg k1
     case measure=>have:=fM.out;omega
     case rel=>exact⟨tY,rfl,H',⟨by have:=fM.out;omega⟩,vZ,FD,HB⟩
    ·rw[if_neg c6]at H;have iP:((rd aU (gX))==0)=false:=beq_eq_false_iff_ne.mpr c6;have og:((rd aU (gX)) !=0)=true:=bne_iff_ne.mpr c6;obtain rfl:=Option.some.inj H;clear hjle;replace l9:=eq_true l9;replace oI:=eq_true oI;go_wp2;go_ret;exact⟨rfl,HB.out⟩
   ·rw[if_neg c2]at H;have kE:=zF c2;have xw:decide (0<aU.length)=false:=decide_eq_false (by omega);clear c2;obtain rfl:=Option.some.inj H;go_wp2;go_ret;exact⟨rfl,HB.out⟩
end Go.Proofs.YthbdjmopolpjmaaGreatDoor.C
