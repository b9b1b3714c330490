/- laws. No condition but on sizes. -/
import Derived.Test.YtdijmbipcgalfaaGreatHM7
import Derived.Test.YtdijmbipcgalfaaGreatHDM3
import Derived.Test.YtdijmbipcgalfaaGreatHM29
namespace Go.Proofs.YtdijmbipcgalfaaGreat
set_option linter.unusedVariables false
open Go.ChangeShapes Go.WideShapes Go.ChangeAt Go.RowKit
variable {B c:Nat}{a:Option Addr}{w:World}
theorem F7.list{α:Type}[E:D7 α]{B n:Nat}{w:World}{D:Array Value}{l:List α}(h:F7 B w D l)(hl:l.length=n)(hD:D.size=n*E.size):D.toList=l.flatMap E.enc:=by
 have hfl:(l.flatMap E.enc).length=n*E.size:=by rw[N4 E.encLen,hl]
 refine List.ext_getElem? fun j=>?_
 by_cases hj:j<n*E.size
 ·have hs:0<E.size:=by
   rcases Nat.eq_zero_or_pos E.size with h0|h0
   ·rw[h0]at hj;omega
   ·exact h0
  have hq:j / E.size<l.length:=by rw[hl];exact Nat.div_lt_of_lt_mul (by rw[Nat.mul_comm];exact hj)
  have hx:=List.getElem?_eq_getElem hq
  obtain⟨vs,h1,h2⟩:=h _ _ hx
  obtain⟨rfl,-⟩:=E.inv h1
  have hm:j % E.size<(E.enc l[j / E.size]).length:=by rw[E.encLen];exact Nat.mod_lt _ hs
  have hu:=List.getElem?_eq_getElem hm
  have h3:=h2 _ _ hu
  have h4:=ag3 E.encLen l _ _ _ _ hx hu
  have hj':j / E.size*E.size+j % E.size=j:=by rw[Nat.mul_comm];exact Nat.div_add_mod _ _
  rw[hj']at h3 h4
  rw[h4,Array.getElem?_toList,h3]
 ·rw[List.getElem?_eq_none (by rw[Array.length_toList];omega),List.getElem?_eq_none om]
theorem F7.own{α:Type}[E:D7 α]{B n:Nat}{W:World}{D:Array Value}{l:List α}(x:b7 (W.alloc (.cells D E.ty)))(h:F7 B x.w D l)(hl:l.length=n)(hm:n≤1048576)(hD:D.size=n*E.size):Own E.enc E.ty E.size W.heap.size x.w (some ⟨W.heap.size,0,none⟩) n l :=
 bm6 E.encLen hl om nl hD (h.list hl hD) x
theorem ax5{l:List Int}(hs:RdS B w a c l)(ht:d9 l≤1048576) :
  Calls Tryz.prog 247 #[.slice a l.length c] w (U5 w l):=by
 have hln:=f6 l
 have HT:=lH (tm ht)
 obtain⟨n,hn⟩:∃ n,l.length=n:=⟨_,rfl⟩
 have HN:=lH hn
 have hm:n≤1048576:=by omega
 rw[hn];clear ht hln hn
 obtain⟨C,hC,hmk⟩:=aq6 (P:=Tryz.prog) Tryz.underlying46 (e:=3) (z:=.int .i64 0) (size:=1) (bytes:=8) kr n om om
 have hCz:C.size=n:=by rw[hC,size_madeCells,Nat.mul_one]
 clear hC
 go_enter Tryz.func247,Tryz.ntmps247
 go_wp2_with (fail)
 clear hmk
 go_loopw [4] (fun v wr=>∃ k:Nat,v=.int .i64 k∧k≤n∧∃ (D:Array Value) (x:b7 (w.alloc (.cells D 3))),D.size=n∧Hid (F7 (w.heap.size+1) x.w D (l.take k))∧wr=x.w) (fun v _=>(n - intOf v).toNat)
 case atStart=>exact⟨0,rfl,by omega,C,b7.here _,hCz,by rw[List.take_zero];exact F7.nil,rfl⟩
 case round =>
  obtain⟨k,rfl,hk,D,x,hDz,hf,rfl⟩:=hrel
  by_cases h:k<n
  ·have hlk:k<l.length:=by have:=HN.out;omega
   obtain⟨eb,eoff,ex,rfl,ehb,ehd,eok,eh0⟩:=hs.atInt (show k<l.length by omega)
   obtain⟨o0,g0⟩:=J8 hDz (show k<n by omega)
   go_wp2_with (fail)
   go_roundw
   case rel =>
    obtain⟨x2,hx2⟩:=b7.set1_at x k (.int .i64 ex)
    rw[hx2]
    have hP:=F7.put (W':=x2.w) hf.out ehd.out h HN.out (show D.size=n*1 by omega) (vs:=[.int .i64 ex]) ⟨rfl,eok⟩ (by rw[← hx2];infer_instance)
    rw[show k*Enc.size Int=k from Nat.mul_one k]at hP
    exact⟨k+1,by go_num,by omega,D.setIfInBounds k _,x2,by simpa using hDz,hP,rfl⟩
   case measure=>simp[intOf];omega
  ·go_wp2_with (fail)
   go_ret
   have hf2:=hf.out
   rw[List.take_of_length_le (by have:=HN.out;omega)]at hf2
   exact⟨_,n,by rw[HN.out];rfl,B6.of (E:=D7.iInt) (F7.own (E:=D7.iInt) x hf2 HN.out hm (by rw[hDz];exact(Nat.mul_one n).symm)) (RdS.goods (E:=D7.iInt) hs) _,⟨x.w,b8.out⟩,rfl⟩
theorem bJ6{l:List Bool}(hs:RdS B w a c l)(ht:d9 l≤1048576) :
  Calls Tryz.prog 128 #[.slice a l.length c] w (U5 w l):=by
 have hln:=f6 l
 have HT:=lH (tm ht)
 obtain⟨n,hn⟩:∃ n,l.length=n:=⟨_,rfl⟩
 have HN:=lH hn
 have hm:n≤1048576:=by omega
 rw[hn];clear ht hln hn
 obtain⟨C,hC,hmk⟩:=aq6 (P:=Tryz.prog) Tryz.underlying41 (e:=4) (z:=.bool false) (size:=1) (bytes:=1) kr n om om
 have hCz:C.size=n:=by rw[hC,size_madeCells,Nat.mul_one]
 clear hC
 go_enter Tryz.func128,Tryz.ntmps128
 go_wp2_with (fail)
 clear hmk
 go_loopw [4] (fun v wr=>∃ k:Nat,v=.int .i64 k∧k≤n∧∃ (D:Array Value) (x:b7 (w.alloc (.cells D 4))),D.size=n∧Hid (F7 (w.heap.size+1) x.w D (l.take k))∧wr=x.w) (fun v _=>(n - intOf v).toNat)
 case atStart=>exact⟨0,rfl,by omega,C,b7.here _,hCz,by rw[List.take_zero];exact F7.nil,rfl⟩
 case round =>
  obtain⟨k,rfl,hk,D,x,hDz,hf,rfl⟩:=hrel
  by_cases h:k<n
  ·have hlk:k<l.length:=by have:=HN.out;omega
   obtain⟨eb,eoff,ex,rfl,ehb,ehd,eh0⟩:=hs.atBool (show k<l.length by omega)
   obtain⟨o0,g0⟩:=J8 hDz (show k<n by omega)
   go_wp2_with (fail)
   go_roundw
   case rel =>
    obtain⟨x2,hx2⟩:=b7.set1_at x k (.bool ex)
    rw[hx2]
    have hP:=F7.put (W':=x2.w) hf.out ehd.out h HN.out (show D.size=n*1 by omega) (vs:=[.bool ex]) rfl (by rw[← hx2];infer_instance)
    rw[show k*Enc.size Bool=k from Nat.mul_one k]at hP
    exact⟨k+1,by go_num,by omega,D.setIfInBounds k _,x2,by simpa using hDz,hP,rfl⟩
   case measure=>simp[intOf];omega
  ·go_wp2_with (fail)
   go_ret
   have hf2:=hf.out
   rw[List.take_of_length_le (by have:=HN.out;omega)]at hf2
   exact⟨_,n,by rw[HN.out];rfl,B6.of (E:=D7.iBool) (F7.own (E:=D7.iBool) x hf2 HN.out hm (by rw[hDz];exact(Nat.mul_one n).symm)) (RdS.goods (E:=D7.iBool) hs) _,⟨x.w,b8.out⟩,rfl⟩
theorem ao7{l:List ByteArray}(hs:RdS B w a c l)(ht:d9 l≤1048576) :
  Calls Tryz.prog 34 #[.slice a l.length c] w (U5 w l):=by
 have hln:=f6 l
 have HT:=lH (tm ht)
 obtain⟨n,hn⟩:∃ n,l.length=n:=⟨_,rfl⟩
 have HN:=lH hn
 have hm:n≤1048576:=by omega
 rw[hn];clear ht hln hn
 obtain⟨C,hC,hmk⟩:=aq6 (P:=Tryz.prog) Tryz.underlying30 (e:=9) (z:=.string ByteArray.empty) (size:=1) (bytes:=16) kr n om om
 have hCz:C.size=n:=by rw[hC,size_madeCells,Nat.mul_one]
 clear hC
 go_enter Tryz.func34,Tryz.ntmps34
 go_wp2_with (fail)
 clear hmk
 go_loopw [4] (fun v wr=>∃ k:Nat,v=.int .i64 k∧k≤n∧∃ (D:Array Value) (x:b7 (w.alloc (.cells D 9))),D.size=n∧Hid (F7 (w.heap.size+1) x.w D (l.take k))∧wr=x.w) (fun v _=>(n - intOf v).toNat)
 case atStart=>exact⟨0,rfl,by omega,C,b7.here _,hCz,by rw[List.take_zero];exact F7.nil,rfl⟩
 case round =>
  obtain⟨k,rfl,hk,D,x,hDz,hf,rfl⟩:=hrel
  by_cases h:k<n
  ·have hlk:k<l.length:=by have:=HN.out;omega
   obtain⟨eb,eoff,ex,rfl,ehb,ehd,eok,eh0⟩:=hs.atStr (show k<l.length by omega)
   obtain⟨o0,g0⟩:=J8 hDz (show k<n by omega)
   go_wp2_with (fail)
   go_roundw
   case rel =>
    obtain⟨x2,hx2⟩:=b7.set1_at x k (.string ex)
    rw[hx2]
    have hP:=F7.put (W':=x2.w) hf.out ehd.out h HN.out (show D.size=n*1 by omega) (vs:=[.string ex]) ⟨rfl,eok⟩ (by rw[← hx2];infer_instance)
    rw[show k*Enc.size ByteArray=k from Nat.mul_one k]at hP
    exact⟨k+1,by go_num,by omega,D.setIfInBounds k _,x2,by simpa using hDz,hP,rfl⟩
   case measure=>simp[intOf];omega
  ·go_wp2_with (fail)
   go_ret
   have hf2:=hf.out
   rw[List.take_of_length_le (by have:=HN.out;omega)]at hf2
   exact⟨_,n,by rw[HN.out];rfl,B6.of (E:=D7.iByteArray) (F7.own (E:=D7.iByteArray) x hf2 HN.out hm (by rw[hDz];exact(Nat.mul_one n).symm)) (RdS.goods (E:=D7.iByteArray) hs) _,⟨x.w,b8.out⟩,rfl⟩
theorem bK0{l:List ap8}(hs:RdS B w a c l)(ht:d9 l≤1048576) :
  Calls Tryz.prog 29 #[.slice a l.length c] w (U5 w l):=by
 have hln:=f6 l
 have HT:=lH (tm ht)
 obtain⟨n,hn⟩:∃ n,l.length=n:=⟨_,rfl⟩
 have HN:=lH hn
 have hm:n≤1048576:=by omega
 rw[hn];clear ht hln hn
 obtain⟨C,hC,hmk⟩:=aq6 (P:=Tryz.prog) Tryz.underlying64 (e:=211) (z:=.agg #[.int .i64 0,.int .i64 0]) (size:=2) (bytes:=16) kr n om om
 have hCz:C.size=n*2:=by rw[hC,size_madeCells]
 clear hC
 go_enter Tryz.func29,Tryz.ntmps29
 go_wp2_with (fail)
 clear hmk
 go_loopw [4] (fun v wr=>∃ k:Nat,v=.int .i64 k∧k≤n∧∃ (D:Array Value) (x:b7 (w.alloc (.cells D 211))),D.size=n*2∧Hid (F7 (w.heap.size+1) x.w D (l.take k))∧wr=x.w) (fun v _=>(n - intOf v).toNat)
 case atStart=>exact⟨0,rfl,by omega,C,b7.here _,hCz,by rw[List.take_zero];exact F7.nil,rfl⟩
 case round =>
  obtain⟨k,rfl,hk,D,x,hDz,hf,rfl⟩:=hrel
  by_cases h:k<n
  ·have hlk:k<l.length:=by have:=HN.out;omega
   obtain⟨eb,eoff,ex,rfl,ehb,ehd,eok,eh0,eh1⟩:=hs.atSlot (show k<l.length by omega)
   obtain⟨o0,g0⟩:=J8 hDz (show k*2<n*2 by omega)
   obtain⟨o1,g1⟩:=J8 hDz (show k*2+1<n*2 by omega)
   have hte:=HT.out ex (List.mem_of_mem_drop (by rw[ehd.out];exact List.mem_cons_self ..))
   have HEOK:=lH eok;clear eok
   go_wp2_with (fail)
   refine(bP1 (B:=0) (x:=ex) ⟨rfl,HEOK.out⟩ hte).mono ?_
   rintro _ _ ⟨_,rfl,⟨rfl,-⟩,y,rfl⟩
   clear hte
   go_wp2_with (fail)
   go_roundw
   case rel =>
    obtain⟨x2,hx2⟩:=b7.set2_at (x.andThen y) (k*2) (k*2+1) (.int .i64 ex.Time) (.int .i64 ex.Id)
    rw[hx2]
    have hP:=F7.put (W':=x2.w) hf.out ehd.out h HN.out hDz (vs:=[.int .i64 ex.Time,.int .i64 ex.Id]) ⟨rfl,HEOK.out⟩ (by rw[← hx2];infer_instance)
    exact⟨k+1,by go_num,by omega,_,x2,by simpa using hDz,hP,rfl⟩
   case measure=>simp[intOf];omega
  ·go_wp2_with (fail)
   go_ret
   have hf2:=hf.out
   rw[List.take_of_length_le (by have:=HN.out;omega)]at hf2
   exact⟨_,n,by rw[HN.out];rfl,B6.of (E:=D7.iSlot) (F7.own (E:=D7.iSlot) x hf2 HN.out hm (by rw[hDz];rfl)) (RdS.goods (E:=D7.iSlot) hs) _,⟨x.w,b8.out⟩,rfl⟩
theorem bJ8{l:List X1}(hs:RdS B w a c l)(ht:d9 l≤1048576) :
  Calls Tryz.prog 125 #[.slice a l.length c] w (U5 w l):=by
 have hln:=f6 l
 have HT:=lH (tm ht)
 obtain⟨n,hn⟩:∃ n,l.length=n:=⟨_,rfl⟩
 have HN:=lH hn
 have hm:n≤1048576:=by omega
 rw[hn];clear ht hln hn
 obtain⟨C,hC,hmk⟩:=aq6 (P:=Tryz.prog) Tryz.underlying72 (e:=206) (z:=.agg #[.int .i64 0,.int .i64 0]) (size:=2) (bytes:=16) kr n om om
 have hCz:C.size=n*2:=by rw[hC,size_madeCells]
 clear hC
 go_enter Tryz.func125,Tryz.ntmps125
 go_wp2_with (fail)
 clear hmk
 go_loopw [4] (fun v wr=>∃ k:Nat,v=.int .i64 k∧k≤n∧∃ (D:Array Value) (x:b7 (w.alloc (.cells D 206))),D.size=n*2∧Hid (F7 (w.heap.size+1) x.w D (l.take k))∧wr=x.w) (fun v _=>(n - intOf v).toNat)
 case atStart=>exact⟨0,rfl,by omega,C,b7.here _,hCz,by rw[List.take_zero];exact F7.nil,rfl⟩
 case round =>
  obtain⟨k,rfl,hk,D,x,hDz,hf,rfl⟩:=hrel
  by_cases h:k<n
  ·have hlk:k<l.length:=by have:=HN.out;omega
   obtain⟨eb,eoff,ex,rfl,ehb,ehd,eok,eh0,eh1⟩:=hs.atPair (show k<l.length by omega)
   obtain⟨o0,g0⟩:=J8 hDz (show k*2<n*2 by omega)
   obtain⟨o1,g1⟩:=J8 hDz (show k*2+1<n*2 by omega)
   have hte:=HT.out ex (List.mem_of_mem_drop (by rw[ehd.out];exact List.mem_cons_self ..))
   have HEOK:=lH eok;clear eok
   go_wp2_with (fail)
   refine(bO9 (B:=0) (x:=ex) ⟨rfl,HEOK.out⟩ hte).mono ?_
   rintro _ _ ⟨_,rfl,⟨rfl,-⟩,y,rfl⟩
   clear hte
   go_wp2_with (fail)
   go_roundw
   case rel =>
    obtain⟨x2,hx2⟩:=b7.set2_at (x.andThen y) (k*2) (k*2+1) (.int .i64 ex.Board) (.int .i64 ex.True)
    rw[hx2]
    have hP:=F7.put (W':=x2.w) hf.out ehd.out h HN.out hDz (vs:=[.int .i64 ex.Board,.int .i64 ex.True]) ⟨rfl,HEOK.out⟩ (by rw[← hx2];infer_instance)
    exact⟨k+1,by go_num,by omega,_,x2,by simpa using hDz,hP,rfl⟩
   case measure=>simp[intOf];omega
  ·go_wp2_with (fail)
   go_ret
   have hf2:=hf.out
   rw[List.take_of_length_le (by have:=HN.out;omega)]at hf2
   exact⟨_,n,by rw[HN.out];rfl,B6.of (E:=D7.iPair) (F7.own (E:=D7.iPair) x hf2 HN.out hm (by rw[hDz];rfl)) (RdS.goods (E:=D7.iPair) hs) _,⟨x.w,b8.out⟩,rfl⟩
theorem aP2{l:List k5}(hs:RdS B w a c l)(ht:d9 l≤1048576) :
  Calls Tryz.prog 31 #[.slice a l.length c] w (U5 w l):=by
 have hln:=f6 l
 have HT:=lH (tm ht)
 obtain⟨n,hn⟩:∃ n,l.length=n:=⟨_,rfl⟩
 have HN:=lH hn
 have hm:n≤1048576:=by omega
 rw[hn];clear ht hln hn
 obtain⟨C,hC,hmk⟩:=aq6 (P:=Tryz.prog) Tryz.underlying66 (e:=129) (z:=.agg #[.int .i64 0,.string ByteArray.empty]) (size:=2) (bytes:=24) kr n om om
 have hCz:C.size=n*2:=by rw[hC,size_madeCells]
 clear hC
 go_enter Tryz.func31,Tryz.ntmps31
 go_wp2_with (fail)
 clear hmk
 go_loopw [4] (fun v wr=>∃ k:Nat,v=.int .i64 k∧k≤n∧∃ (D:Array Value) (x:b7 (w.alloc (.cells D 129))),D.size=n*2∧Hid (F7 (w.heap.size+1) x.w D (l.take k))∧wr=x.w) (fun v _=>(n - intOf v).toNat)
 case atStart=>exact⟨0,rfl,by omega,C,b7.here _,hCz,by rw[List.take_zero];exact F7.nil,rfl⟩
 case round =>
  obtain⟨k,rfl,hk,D,x,hDz,hf,rfl⟩:=hrel
  by_cases h:k<n
  ·have hlk:k<l.length:=by have:=HN.out;omega
   obtain⟨eb,eoff,ex,rfl,ehb,ehd,eok,eh0,eh1⟩:=hs.atTFlight (show k<l.length by omega)
   obtain⟨o0,g0⟩:=J8 hDz (show k*2<n*2 by omega)
   obtain⟨o1,g1⟩:=J8 hDz (show k*2+1<n*2 by omega)
   have hte:=HT.out ex (List.mem_of_mem_drop (by rw[ehd.out];exact List.mem_cons_self ..))
   have HEOK:=lH eok;clear eok
   go_wp2_with (fail)
   refine(bz1 (B:=0) (x:=ex) ⟨rfl,HEOK.out⟩ hte).mono ?_
   rintro _ _ ⟨_,rfl,⟨rfl,-⟩,y,rfl⟩
   clear hte
   go_wp2_with (fail)
   go_roundw
   case rel =>
    obtain⟨x2,hx2⟩:=b7.set2_at (x.andThen y) (k*2) (k*2+1) (.int .i64 ex.At) (.string ex.Data)
    rw[hx2]
    have hP:=F7.put (W':=x2.w) hf.out ehd.out h HN.out hDz (vs:=[.int .i64 ex.At,.string ex.Data]) ⟨rfl,HEOK.out⟩ (by rw[← hx2];infer_instance)
    exact⟨k+1,by go_num,by omega,_,x2,by simpa using hDz,hP,rfl⟩
   case measure=>simp[intOf];omega
  ·go_wp2_with (fail)
   go_ret
   have hf2:=hf.out
   rw[List.take_of_length_le (by have:=HN.out;omega)]at hf2
   exact⟨_,n,by rw[HN.out];rfl,B6.of (E:=D7.iTFlight) (F7.own (E:=D7.iTFlight) x hf2 HN.out hm (by rw[hDz];rfl)) (RdS.goods (E:=D7.iTFlight) hs) _,⟨x.w,b8.out⟩,rfl⟩
theorem az7{l:List s8}(hs:RdS B w a c l)(ht:d9 l≤1048576) :
  Calls Tryz.prog 126 #[.slice a l.length c] w (U5 w l):=by
 have hln:=f6 l
 have HT:=lH (tm ht)
 obtain⟨n,hn⟩:∃ n,l.length=n:=⟨_,rfl⟩
 have HN:=lH hn
 have hm:n≤1048576:=by omega
 rw[hn];clear ht hln hn
 obtain⟨C,hC,hmk⟩:=aq6 (P:=Tryz.prog) Tryz.underlying73 (e:=151) (z:=.agg #[.int .i64 0,.int .i64 0,.int .i64 0,.string ByteArray.empty]) (size:=4) (bytes:=40) kr n om om
 have hCz:C.size=n*4:=by rw[hC,size_madeCells]
 clear hC
 go_enter Tryz.func126,Tryz.ntmps126
 go_wp2_with (fail)
 clear hmk
 go_loopw [4] (fun v wr=>∃ k:Nat,v=.int .i64 k∧k≤n∧∃ (D:Array Value) (x:b7 (w.alloc (.cells D 151))),D.size=n*4∧Hid (F7 (w.heap.size+1) x.w D (l.take k))∧wr=x.w) (fun v _=>(n - intOf v).toNat)
 case atStart=>exact⟨0,rfl,by omega,C,b7.here _,hCz,by rw[List.take_zero];exact F7.nil,rfl⟩
 case round =>
  obtain⟨k,rfl,hk,D,x,hDz,hf,rfl⟩:=hrel
  by_cases h:k<n
  ·have hlk:k<l.length:=by have:=HN.out;omega
   obtain⟨eb,eoff,ex,rfl,ehb,ehd,eok,eh0,eh1,eh2,eh3⟩:=hs.atTRecord (show k<l.length by omega)
   obtain⟨o0,g0⟩:=J8 hDz (show k*4<n*4 by omega)
   obtain⟨o1,g1⟩:=J8 hDz (show k*4+1<n*4 by omega)
   obtain⟨o2,g2⟩:=J8 hDz (show k*4+2<n*4 by omega)
   obtain⟨o3,g3⟩:=J8 hDz (show k*4+3<n*4 by omega)
   have hte:=HT.out ex (List.mem_of_mem_drop (by rw[ehd.out];exact List.mem_cons_self ..))
   have HEOK:=lH eok;clear eok
   go_wp2_with (fail)
   refine(bz3 (B:=0) (x:=ex) ⟨rfl,HEOK.out⟩ hte).mono ?_
   rintro _ _ ⟨_,rfl,⟨rfl,-⟩,y,rfl⟩
   clear hte
   go_wp2_with (fail)
   go_roundw
   case rel =>
    obtain⟨x2,hx2⟩:=b7.set4_at (x.andThen y) (k*4) (k*4+1) (k*4+2) (k*4+3) (.int .i64 ex.Id) (.int .i64 ex.Priority) (.int .i64 ex.Time) (.string ex.Data)
    rw[hx2]
    have hP:=F7.put (W':=x2.w) hf.out ehd.out h HN.out hDz (vs:=[.int .i64 ex.Id,.int .i64 ex.Priority,.int .i64 ex.Time,.string ex.Data]) ⟨rfl,HEOK.out⟩ (by rw[← hx2];infer_instance)
    exact⟨k+1,by go_num,by omega,_,x2,by simpa using hDz,hP,rfl⟩
   case measure=>simp[intOf];omega
  ·go_wp2_with (fail)
   go_ret
   have hf2:=hf.out
   rw[List.take_of_length_le (by have:=HN.out;omega)]at hf2
   exact⟨_,n,by rw[HN.out];rfl,B6.of (E:=D7.iTRecord) (F7.own (E:=D7.iTRecord) x hf2 HN.out hm (by rw[hDz];rfl)) (RdS.goods (E:=D7.iTRecord) hs) _,⟨x.w,b8.out⟩,rfl⟩
theorem bk2{l:List D4}(hs:RdS B w a c l)(ht:d9 l≤1048576) :
  Calls Tryz.prog 249 #[.slice a l.length c] w (U5 w l):=by
 have hln:=f6 l
 have HT:=lH (tm ht)
 obtain⟨n,hn⟩:∃ n,l.length=n:=⟨_,rfl⟩
 have HN:=lH hn
 have hm:n≤1048576:=by omega
 rw[hn];clear ht hln hn
 obtain⟨C,hC,hmk⟩:=aq6 (P:=Tryz.prog) Tryz.underlying79 (e:=318) (z:=.agg #[.int .i64 0,.int .i64 0,.int .i64 0,.int .i64 0,.int .i64 0]) (size:=5) (bytes:=40) kr n om om
 have hCz:C.size=n*5:=by rw[hC,size_madeCells]
 clear hC
 go_enter Tryz.func249,Tryz.ntmps249
 go_wp2_with (fail)
 clear hmk
 go_loopw [4] (fun v wr=>∃ k:Nat,v=.int .i64 k∧k≤n∧∃ (D:Array Value) (x:b7 (w.alloc (.cells D 318))),D.size=n*5∧Hid (F7 (w.heap.size+1) x.w D (l.take k))∧wr=x.w) (fun v _=>(n - intOf v).toNat)
 case atStart=>exact⟨0,rfl,by omega,C,b7.here _,hCz,by rw[List.take_zero];exact F7.nil,rfl⟩
 case round =>
  obtain⟨k,rfl,hk,D,x,hDz,hf,rfl⟩:=hrel
  by_cases h:k<n
  ·have hlk:k<l.length:=by have:=HN.out;omega
   obtain⟨eb,eoff,ex,rfl,ehb,ehd,eok,eh0,eh1,eh2,eh3,eh4⟩:=hs.atTWaiting (show k<l.length by omega)
   obtain⟨o0,g0⟩:=J8 hDz (show k*5<n*5 by omega)
   obtain⟨o1,g1⟩:=J8 hDz (show k*5+1<n*5 by omega)
   obtain⟨o2,g2⟩:=J8 hDz (show k*5+2<n*5 by omega)
   obtain⟨o3,g3⟩:=J8 hDz (show k*5+3<n*5 by omega)
   obtain⟨o4,g4⟩:=J8 hDz (show k*5+4<n*5 by omega)
   have hte:=HT.out ex (List.mem_of_mem_drop (by rw[ehd.out];exact List.mem_cons_self ..))
   have HEOK:=lH eok;clear eok
   go_wp2_with (fail)
   refine(bq6 (B:=0) (x:=ex) ⟨rfl,HEOK.out⟩ hte).mono ?_
   rintro _ _ ⟨_,rfl,⟨rfl,-⟩,y,rfl⟩
   clear hte
   go_wp2_with (fail)
   go_roundw
   case rel =>
    obtain⟨x2,hx2⟩:=b7.set5_at (x.andThen y) (k*5) (k*5+1) (k*5+2) (k*5+3) (k*5+4) (.int .i64 ex.Number) (.int .i64 ex.Order.Kind) (.int .i64 ex.Order.At) (.int .i64 ex.Order.A) (.int .i64 ex.Order.B)
    rw[hx2]
    have hP:=F7.put (W':=x2.w) hf.out ehd.out h HN.out hDz (vs:=[.int .i64 ex.Number,.int .i64 ex.Order.Kind,.int .i64 ex.Order.At,.int .i64 ex.Order.A,.int .i64 ex.Order.B]) ⟨rfl,HEOK.out⟩ (by rw[← hx2];infer_instance)
    exact⟨k+1,by go_num,by omega,_,x2,by simpa using hDz,hP,rfl⟩
   case measure=>simp[intOf];omega
  ·go_wp2_with (fail)
   go_ret
   have hf2:=hf.out
   rw[List.take_of_length_le (by have:=HN.out;omega)]at hf2
   exact⟨_,n,by rw[HN.out];rfl,B6.of (E:=D7.iTWaiting) (F7.own (E:=D7.iTWaiting) x hf2 HN.out hm (by rw[hDz];rfl)) (RdS.goods (E:=D7.iTWaiting) hs) _,⟨x.w,b8.out⟩,rfl⟩
theorem bC0{l:List V8}(hs:RdS B w a c l)(ht:d9 l≤1048576) :
  Calls Tryz.prog 248 #[.slice a l.length c] w (U5 w l):=by
 have hln:=f6 l
 have HT:=lH (tm ht)
 obtain⟨n,hn⟩:∃ n,l.length=n:=⟨_,rfl⟩
 have HN:=lH hn
 have hm:n≤1048576:=by omega
 rw[hn];clear ht hln hn
 obtain⟨C,hC,hmk⟩:=aq6 (P:=Tryz.prog) Tryz.underlying78 (e:=313) (z:=.agg #[.int .i64 0,.int .i64 0,.int .i64 0]) (size:=3) (bytes:=24) kr n om om
 have hCz:C.size=n*3:=by rw[hC,size_madeCells]
 clear hC
 go_enter Tryz.func248,Tryz.ntmps248
 go_wp2_with (fail)
 clear hmk
 go_loopw [4] (fun v wr=>∃ k:Nat,v=.int .i64 k∧k≤n∧∃ (D:Array Value) (x:b7 (w.alloc (.cells D 313))),D.size=n*3∧Hid (F7 (w.heap.size+1) x.w D (l.take k))∧wr=x.w) (fun v _=>(n - intOf v).toNat)
 case atStart=>exact⟨0,rfl,by omega,C,b7.here _,hCz,by rw[List.take_zero];exact F7.nil,rfl⟩
 case round =>
  obtain⟨k,rfl,hk,D,x,hDz,hf,rfl⟩:=hrel
  by_cases h:k<n
  ·have hlk:k<l.length:=by have:=HN.out;omega
   obtain⟨eb,eoff,ex,rfl,ehb,ehd,eok,eh0,eh1,eh2⟩:=hs.atTLimit (show k<l.length by omega)
   obtain⟨o0,g0⟩:=J8 hDz (show k*3<n*3 by omega)
   obtain⟨o1,g1⟩:=J8 hDz (show k*3+1<n*3 by omega)
   obtain⟨o2,g2⟩:=J8 hDz (show k*3+2<n*3 by omega)
   have hte:=HT.out ex (List.mem_of_mem_drop (by rw[ehd.out];exact List.mem_cons_self ..))
   have HEOK:=lH eok;clear eok
   go_wp2_with (fail)
   refine(bH7 (B:=0) (x:=ex) ⟨rfl,HEOK.out⟩ hte).mono ?_
   rintro _ _ ⟨_,rfl,⟨rfl,-⟩,y,rfl⟩
   clear hte
   go_wp2_with (fail)
   go_roundw
   case rel =>
    obtain⟨x2,hx2⟩:=b7.set3_at (x.andThen y) (k*3) (k*3+1) (k*3+2) (.int .i64 ex.Param) (.int .i64 ex.Low) (.int .i64 ex.High)
    rw[hx2]
    have hP:=F7.put (W':=x2.w) hf.out ehd.out h HN.out hDz (vs:=[.int .i64 ex.Param,.int .i64 ex.Low,.int .i64 ex.High]) ⟨rfl,HEOK.out⟩ (by rw[← hx2];infer_instance)
    exact⟨k+1,by go_num,by omega,_,x2,by simpa using hDz,hP,rfl⟩
   case measure=>simp[intOf];omega
  ·go_wp2_with (fail)
   go_ret
   have hf2:=hf.out
   rw[List.take_of_length_le (by have:=HN.out;omega)]at hf2
   exact⟨_,n,by rw[HN.out];rfl,B6.of (E:=D7.iTLimit) (F7.own (E:=D7.iTLimit) x hf2 HN.out hm (by rw[hDz];rfl)) (RdS.goods (E:=D7.iTLimit) hs) _,⟨x.w,b8.out⟩,rfl⟩
theorem bJ7{l:List ad2}(hs:RdS B w a c l)(ht:d9 l≤1048576) :
  Calls Tryz.prog 250 #[.slice a l.length c] w (U5 w l):=by
 have hln:=f6 l
 have HT:=lH (tm ht)
 obtain⟨n,hn⟩:∃ n,l.length=n:=⟨_,rfl⟩
 have HN:=lH hn
 have hm:n≤1048576:=by omega
 rw[hn];clear ht hln hn
 obtain⟨C,hC,hmk⟩:=aq6 (P:=Tryz.prog) Tryz.underlying80 (e:=321) (z:=.agg #[.int .i64 0,.int .i64 0,.int .i64 0]) (size:=3) (bytes:=24) kr n om om
 have hCz:C.size=n*3:=by rw[hC,size_madeCells]
 clear hC
 go_enter Tryz.func250,Tryz.ntmps250
 go_wp2_with (fail)
 clear hmk
 go_loopw [4] (fun v wr=>∃ k:Nat,v=.int .i64 k∧k≤n∧∃ (D:Array Value) (x:b7 (w.alloc (.cells D 321))),D.size=n*3∧Hid (F7 (w.heap.size+1) x.w D (l.take k))∧wr=x.w) (fun v _=>(n - intOf v).toNat)
 case atStart=>exact⟨0,rfl,by omega,C,b7.here _,hCz,by rw[List.take_zero];exact F7.nil,rfl⟩
 case round =>
  obtain⟨k,rfl,hk,D,x,hDz,hf,rfl⟩:=hrel
  by_cases h:k<n
  ·have hlk:k<l.length:=by have:=HN.out;omega
   obtain⟨eb,eoff,ex,rfl,ehb,ehd,eok,eh0,eh1,eh2⟩:=hs.atTDone (show k<l.length by omega)
   obtain⟨o0,g0⟩:=J8 hDz (show k*3<n*3 by omega)
   obtain⟨o1,g1⟩:=J8 hDz (show k*3+1<n*3 by omega)
   obtain⟨o2,g2⟩:=J8 hDz (show k*3+2<n*3 by omega)
   have hte:=HT.out ex (List.mem_of_mem_drop (by rw[ehd.out];exact List.mem_cons_self ..))
   have HEOK:=lH eok;clear eok
   go_wp2_with (fail)
   refine(bO8 (B:=0) (x:=ex) ⟨rfl,HEOK.out⟩ hte).mono ?_
   rintro _ _ ⟨_,rfl,⟨rfl,-⟩,y,rfl⟩
   clear hte
   go_wp2_with (fail)
   go_roundw
   case rel =>
    obtain⟨x2,hx2⟩:=b7.set3_at (x.andThen y) (k*3) (k*3+1) (k*3+2) (.int .i64 ex.Number) (.int .i64 ex.Time) (.int .i64 ex.Result)
    rw[hx2]
    have hP:=F7.put (W':=x2.w) hf.out ehd.out h HN.out hDz (vs:=[.int .i64 ex.Number,.int .i64 ex.Time,.int .i64 ex.Result]) ⟨rfl,HEOK.out⟩ (by rw[← hx2];infer_instance)
    exact⟨k+1,by go_num,by omega,_,x2,by simpa using hDz,hP,rfl⟩
   case measure=>simp[intOf];omega
  ·go_wp2_with (fail)
   go_ret
   have hf2:=hf.out
   rw[List.take_of_length_le (by have:=HN.out;omega)]at hf2
   exact⟨_,n,by rw[HN.out];rfl,B6.of (E:=D7.iTDone) (F7.own (E:=D7.iTDone) x hf2 HN.out hm (by rw[hDz];rfl)) (RdS.goods (E:=D7.iTDone) hs) _,⟨x.w,b8.out⟩,rfl⟩
theorem bJ9{l:List V9}(hs:RdS B w a c l)(ht:d9 l≤1048576) :
  Calls Tryz.prog 243 #[.slice a l.length c] w (U5 w l):=by
 have hln:=f6 l
 have HT:=lH (tm ht)
 obtain⟨n,hn⟩:∃ n,l.length=n:=⟨_,rfl⟩
 have HN:=lH hn
 have hm:n≤1048576:=by omega
 rw[hn];clear ht hln hn
 obtain⟨C,hC,hmk⟩:=aq6 (P:=Tryz.prog) Tryz.underlying67 (e:=294) (z:=.agg #[.int .i64 0,.string ByteArray.empty]) (size:=2) (bytes:=24) kr n om om
 have hCz:C.size=n*2:=by rw[hC,size_madeCells]
 clear hC
 go_enter Tryz.func243,Tryz.ntmps243
 go_wp2_with (fail)
 clear hmk
 go_loopw [4] (fun v wr=>∃ k:Nat,v=.int .i64 k∧k≤n∧∃ (D:Array Value) (x:b7 (w.alloc (.cells D 294))),D.size=n*2∧Hid (F7 (w.heap.size+1) x.w D (l.take k))∧wr=x.w) (fun v _=>(n - intOf v).toNat)
 case atStart=>exact⟨0,rfl,by omega,C,b7.here _,hCz,by rw[List.take_zero];exact F7.nil,rfl⟩
 case round =>
  obtain⟨k,rfl,hk,D,x,hDz,hf,rfl⟩:=hrel
  by_cases h:k<n
  ·have hlk:k<l.length:=by have:=HN.out;omega
   obtain⟨eb,eoff,ex,rfl,ehb,ehd,eok,eh0,eh1⟩:=hs.atTSent (show k<l.length by omega)
   obtain⟨o0,g0⟩:=J8 hDz (show k*2<n*2 by omega)
   obtain⟨o1,g1⟩:=J8 hDz (show k*2+1<n*2 by omega)
   have hte:=HT.out ex (List.mem_of_mem_drop (by rw[ehd.out];exact List.mem_cons_self ..))
   have HEOK:=lH eok;clear eok
   go_wp2_with (fail)
   refine(bP0 (B:=0) (x:=ex) ⟨rfl,HEOK.out⟩ hte).mono ?_
   rintro _ _ ⟨_,rfl,⟨rfl,-⟩,y,rfl⟩
   clear hte
   go_wp2_with (fail)
   go_roundw
   case rel =>
    obtain⟨x2,hx2⟩:=b7.set2_at (x.andThen y) (k*2) (k*2+1) (.int .i64 ex.Seq) (.string ex.Data)
    rw[hx2]
    have hP:=F7.put (W':=x2.w) hf.out ehd.out h HN.out hDz (vs:=[.int .i64 ex.Seq,.string ex.Data]) ⟨rfl,HEOK.out⟩ (by rw[← hx2];infer_instance)
    exact⟨k+1,by go_num,by omega,_,x2,by simpa using hDz,hP,rfl⟩
   case measure=>simp[intOf];omega
  ·go_wp2_with (fail)
   go_ret
   have hf2:=hf.out
   rw[List.take_of_length_le (by have:=HN.out;omega)]at hf2
   exact⟨_,n,by rw[HN.out];rfl,B6.of (E:=D7.iTSent) (F7.own (E:=D7.iTSent) x hf2 HN.out hm (by rw[hDz];rfl)) (RdS.goods (E:=D7.iTSent) hs) _,⟨x.w,b8.out⟩,rfl⟩
