/- The receiving side of the link of the reference: bits gathered, blocks read. No condition but on sizes. -/
import Derived.Test.YtdoilejecjaldaaGreatHRcvS
import Derived.Test.YtdoilejecjaldaaGreatHM22
import Derived.Test.YtdoilejecjaldaaGreatHM26
import Derived.Deep.CutRange
namespace Go.Proofs.YtdoilejecjaldaaGreat
set_option maxRecDepth 100000
set_option maxHeartbeats 4000000
set_option linter.unusedVariables false
open Go.ChangeShapes Go.WideShapes Go.ChangeAt Go.RowKit
theorem bf4{s:ByteArray}{w:World}(hm:s.size≤400):Calls Tryz.prog 178 #[.string s] w (b4 w (.string (strOfNums (am7 (j4 s))))):=by
 have hlen:=J6 s
 obtain⟨n,hn⟩:∃ n,s.size=n:=⟨_,rfl⟩
 have hln:(j4 s).length=n:=by omega
 have hmk:=br1 (P:=Tryz.prog) (t:=289) (e:=5) Tryz.underlying289 kr (l:=n) (c:=n) (a:=n) (b:=n) nl (by omega) rfl rfl
 go_enter Tryz.func178,Tryz.ntmps178
 go_wp2_with (first|((with_reducible refine rl ?_);(repeat(first|go_big_quiet_step (first|fail)|simp only[hn]));refine wpQuiet_nil ?_;intro x))
 go_loopw [5] (fun v wr=>∃ (k:Nat) (D:List Int),v=.int .i64 k∧k≤8∧D.length=n∧Hid ((ba3 (aF8 (j4 s)) n k (8 - k)).foldl (up1 orU) D=am7 (j4 s))∧Hid (ap6 wr w.heap.size D)∧∃ x:b5 w,wr=x.w) (fun v _=>(8 - intOf v).toNat)
 case atStart=>exact⟨0,List.replicate n 0,rfl,by omega,by simp,lH (by have:=bv7 (j4 s);rw[hln]at this;exact this),lH (ap6.made rfl),b5.of⟩
 case round =>
  obtain⟨k,D,rfl,hk,hDn,HF,HD,x0,rfl⟩:=hrel
  by_cases hk8:k<8
  ·have HK:=lH (show decide ((k:Int)<8)=true by simp;omega)
   go_wp2_with (first|((with_reducible refine rl ?_);refine rq ?_;intro x))
   (try rw[HK.out])
   go_loopw [6] (fun v wr=>∃ (m:Nat) (D:List Int),v=.int .i64 m∧m≤n∧D.length=n∧Hid ((ba3 (aF8 (j4 s)) n (k+1) (8 - (k+1))).foldl (up1 orU) ((bJ7 (aF8 (j4 s)) k m (n - m)).foldl (up1 orU) D)=am7 (j4 s))∧Hid (ap6 wr w.heap.size D)∧∃ y:b5 w,wr=y.w) (fun v _=>(n - intOf v).toNat)
   case atStart=>exact⟨0,D,rfl,by omega,hDn,lH (by have:=HF.out;rw[bA8 _ _ hk8,List.foldl_append]at this;exact this),HD.out.to ii,b5.of⟩
   case round =>
    obtain⟨m,D,rfl,hm,hDn,HF,HD,y,rfl⟩:=hrel
    by_cases hmn:m<n
    ·have hln:(j4 s).length=n:=by rw[hlen];exact hn
     obtain⟨q,hq9⟩:∃ x:Nat,k*n=x:=⟨_,rfl⟩
     have HQ:=lH hq9
     have hq7:q≤7*n:=hq9▸Nat.mul_le_mul_right n (by omega)
     have HOV:=lH (show(k:Int)*n=(q:Int)by rw[← hq9];exact(Int.natCast_mul k n).symm)
     clear hq9
     obtain⟨p,hp9⟩:∃ x:Nat,q+m=x:=⟨_,rfl⟩
     have HP:=lH hp9
     obtain⟨j,hj9⟩:∃ x:Nat,p / 8=x:=⟨_,rfl⟩
     have HJ:=lH hj9
     obtain⟨r,hr9⟩:∃ x:Nat,p % 8=x:=⟨_,rfl⟩
     have HR:=lH hr9
     have hjn:j<n:=by omega
     have hr8:r<8:=by omega
     have hpb:p≤4000:=by omega
     have HPE:=lH (show wrap64 (wrap64 (q:Int)+m)=(p:Int)by rw[w64 (n:=(q:Int)) (by omega) (by omega),w64 (n:=(q:Int)+m) (by omega) (by omega)];omega)
     clear hp9 hj9 hr9
     obtain⟨d,hd9⟩:∃ x:Int,D.getD m 0=x:=⟨_,rfl⟩
     have Hd:=lH hd9
     have hcell:∀ (W:World) [d5 y.w W],W.cell? ⟨w.heap.size,0+m*1,none⟩=some (.int .u8 d):=fun W g=>by rw[Nat.zero_add,Nat.mul_one,← Hd.out];exact((HD.out.to g).at (by omega)).1
     clear hd9
     have hjs:j<s.size:=by omega
     obtain⟨hb1,hdr⟩:=W8 hjs
     obtain⟨b,hb⟩:∃ b:Int,((s[j]'hjs).toNat:Int)=b:=⟨_,rfl⟩
     have hb0:0≤b:=by omega
     rw[hb]at hb1 hdr
     have Hb:=lH (show(j4 s).getD j 0=b by have:=congrArg (fun l=>l[0]?) hdr;simp only[List.getElem?_drop,Nat.add_zero,List.getElem?_cons_zero]at this;rw[List.getD,this];rfl)
     clear hdr
     have⟨hs0,hs1⟩:=bO9 hb0 hb1 r
     obtain⟨bs,hbs9⟩:∃ x:Int,b / 2 ^ r=x:=⟨_,rfl⟩
     have HS:=lH hbs9
     rw[hbs9]at hs0 hs1
     clear hbs9
     obtain⟨b1,hb19⟩:∃ x:Int,bs % 2=x:=⟨_,rfl⟩
     have HS1:=lH hb19
     clear hb19
     obtain⟨v,hv9⟩:∃ x:Int,IntKind.u8.wrap (b1*2 ^ k)=x:=⟨_,rfl⟩
     have HV:=lH hv9
     clear hv9
     obtain⟨ov,hov9⟩:∃ x:Int,orU d v=x:=⟨_,rfl⟩
     have HO:=lH hov9
     clear hov9
     go_upto_region 10 with(first|((with_reducible refine rl ?_);refine rq ?_;intro x)|(rw[HOV.out]))
     rw[HPE.out]
     refine X3 kr (T:=[18]) (Zs:=[]) (H:=[(4,[]),(5,[]),(8,[]),(9,[]),(11,[]),(12,[]),(13,[]),(15,[]),(16,[]),(17,[])]) (C:=[]) (Fs:=[(some 26,.v (.slice (some ⟨w.heap.size,0,none⟩) n n)),(some 27,.v (.int .i64 (m))),(some 28,.v (.slice (some ⟨w.heap.size,0,none⟩) n n)),(some 29,.v (.int .i64 (m))),(some 30,.v (.pointer (some ⟨w.heap.size,0+m*1,none⟩))),(some 31,.v (.int .u8 (d))),(some 32,.v (.string s)),(some 33,.v (.int .i64 ((p:Int)))),(some 34,.v (.int .i64 ((j:Int)))),(some 35,.v (.int .u8 (b))),(some 36,.v (.int .i64 ((p:Int)))),(some 37,.v (.int .i64 ((r:Int)))),(some 38,.v (.int .u8 (bs))),(some 39,.v (.int .u8 (b1))),(some 40,.v (.int .i64 (k))),(some 41,.v (.int .u8 (v))),(some 42,.v (.int .u8 (ov))),(some 43,.v (.pointer (some ⟨w.heap.size,0+m*1,none⟩))),(none,.v (undef))]) kr (fun val W=>by kernel_rfl) ?ob10 ?lz10 ?pn10 ?tl10
     case ob10 =>
      refine⟨fun x=>?_,fun x=>?_,fun x=>?_,fun x=>?_,fun x=>?_,fun x=>?_,fun x=>?_,fun x=>?_,fun x=>?_,fun x=>?_,trivial⟩
      ·exact bv6 (size:=1) (o:=0) (j:=m) (n:=n) (c:=n) rfl kr Tryz.underlying289 kr hmn
      ·exact aQ3 (hcell x.w) rfl kr _ Tryz.underlying5 rfl
      ·exact aA5 (o:=.quo) (p:=.i64) (s:=(p:Int)) (q:=.i64) (t:=8) rfl kr (fun ty ty2 w=>by exact HJ.out▸by2 rfl hpb ty ty2 w)
      ·exact bH0 rfl kr Tryz.underlying9 hjs hb
      ·exact aA5 (o:=.rem) (p:=.i64) (s:=(p:Int)) (q:=.i64) (t:=8) rfl kr (fun ty ty2 w=>by exact HR.out▸by3 rfl hpb ty ty2 w)
      ·exact aA5 (o:=.shr) (p:=.u8) (s:=b) (q:=.i64) (t:=(r:Int)) rfl kr (fun ty ty2 w=>by exact HS.out▸by5 hr8 ty ty2 w)
      ·exact aA5 (o:=.and) (p:=.u8) (s:=bs) (q:=.u8) (t:=1) rfl kr (fun ty ty2 w=>by exact HS1.out▸by1 hs0 hs1 ty ty2 w)
      ·exact aA5 (o:=.shl) (p:=.u8) (s:=b1) (q:=.i64) (t:=k) rfl kr (fun ty ty2 w=>by exact HV.out▸by4 hk8 ty ty2 w)
      ·exact aA5 (o:=.or) (p:=.u8) (s:=d) (q:=.u8) (t:=v) rfl kr (fun ty ty2 w=>by exact HO.out▸bO4 ty ty2 w)
      ·exact bv6 (size:=1) (o:=0) (j:=m) (n:=n) (c:=n) rfl kr Tryz.underlying289 kr hmn
     case lz10 =>
      exact trivial
     case pn10=>exact fun _ _ _ _ _ _ h=>h
     case tl10 =>
      intro x
      refine be3 rfl ?_
      simp only[az6,au1]
      simp only[nrm,if_true]
      refine aQ6 rfl _ (.tmp 43) (.tmp 42) rfl w.heap.size (0+m*1) rfl (L2:=up1 orU D (aF8 (j4 s) m k)) (HD.out.to (ii:d5 y.w x.w)) rfl kr (by omega) (by rw[up1,aF8,Nat.zero_add,Nat.mul_one,hln,HQ.out,HP.out,HJ.out,HR.out,Hb.out,HS.out,HS1.out,HV.out,Hd.out,HO.out]) (w0:=w) ii nl ?_
      intro z hz
      have HZ:=lH hz;clear hz hcell
      (try simp only[Act.put,List.setIfInBounds_toArray])
      go_wp2_with (first|((with_reducible refine rl ?_);refine rq ?_;intro x))
      go_roundw
      case rel=>exact⟨m+1,up1 orU D (aF8 (j4 s) m k),by go_num,by omega,by rw[br4];exact hDn,lH (by have:=HF.out;rw[bJ8 _ _ hmn,List.foldl_cons]at this;exact this),HZ,b5.of⟩
      case measure=>simp[intOf];omega
    ·obtain rfl:n=m:=by omega
     go_wp2_with (first|((with_reducible refine rl ?_);refine rq ?_;intro x))
     go_roundw
     case rel=>exact⟨k+1,D,by go_num,by omega,hDn,lH (by have:=HF.out;rw[Nat.sub_self]at this;exact this),HD,b5.of⟩
     case measure=>simp[intOf];omega
  ·obtain rfl:k=8:=by omega
   have hcv:=HD.out.str (P:=Tryz.prog) (c:=n) hDn Tryz.underlying289 Tryz.underlying5 Tryz.underlying9
   have hcv1:=hcv x0.w
   clear hcv
   have HF2:=lH (show D=am7 (j4 s)by have:=HF.out;rw[Nat.sub_self]at this;exact this)
   go_wp2_with (first|((with_reducible refine rl ?_);refine rq ?_;intro x))
   go_ret
   exact b4.mk (by rw[HF2.out];rfl)
theorem bm9{s:ByteArray}{w:World}(hm:s.size≤400):Calls Tryz.prog 80 #[.string s] w (aX3 w (av2 s)):=by
 by_cases h0:s.size=0
 ·obtain rfl:s=⟨#[]⟩:=aw9 h0
  go_enter Tryz.func80,Tryz.ntmps80
  go_wp2_with (fail)
  refine bodyPost_ret (v:=.tuple #[.string ⟨#[]⟩,.int .i64 0,.bool false]) ?_ rfl (⟨0,rfl,b5.of⟩)
  simp[results,Tryz.results80,go_sem]
 have he:=al4 h0
 have HV:=lH (show av2 s=am6 (aI4 s)by rw[av2,if_neg h0])
 have hz2:(strOfNums (scr 255 (j4 s))).size≤400:=by rw[strOfNums_size,aX8,J6];exact hm
 have hz3:=bd7 s
 have HG:=bd6 s
 go_enter Tryz.func80,Tryz.ntmps80
 go_wp2_with (first|(go_at_call 179;refine gm (bt2 hm) ?_;intro y1)|(go_at_call 178;refine gm (bf4 hz2) ?_;intro y2)|(go_at_call 177;refine(aZ5 (by omega)).mono ?_;rintro _ _ ⟨n9,rfl,y3,rfl⟩))
 refine bodyPost_ret (v:=.tuple #[.string (an9 (am6 (aI4 s))),.int .i64 n9,.bool (am6 (aI4 s)).isSome]) ?_ rfl (⟨n9,by rw[HV.out],b5.of⟩)
 simp[results,Tryz.results80,go_sem]
theorem bA5{s:ByteArray}{w:World}(hm:s.size≤404):Calls Tryz.prog 19 #[.string s] w (b4 w (.tuple #[.string (an9 (U9 s)),.bool (U9 s).isSome])):=by
 by_cases h4:4≤s.size
 ·have c0:decide ((s.size:Int)<4)=false:=by simp;omega
  have h4i:(4:Int)≤(s.size:Int):=by omega
  have hz:(s.extract 4 s.size).size≤400:=by rw[ByteArray.size_extract];omega
  have HM:=lH (show ak4 s=((s.extract 0 4).toList == ([26,207,252,29]:List UInt8))by rw[ak4,decide_eq_true h4,bl3,Bool.true_and])
  cases c1:((s.extract 0 4).toList == ([26,207,252,29]:List UInt8))
  ·have HV:=lH (show U9 s=none by rw[U9,HM.out,c1];rfl)
   go_enter Tryz.func19,Tryz.ntmps19
   go_wp2_with (fail)
   refine bodyPost_ret (v:=.tuple #[.string ⟨#[]⟩,.bool false]) ?_ rfl (b4.mk (by rw[HV.out];rfl))
   simp[results,Tryz.results19,go_sem]
  ·have HV:=lH (show U9 s=av2 (s.extract 4 s.size)by rw[U9,HM.out,c1];rfl)
   go_enter Tryz.func19,Tryz.ntmps19
   go_wp2_with (first|(go_at_call 80;refine(bm9 hz).mono ?_;rintro _ _ ⟨n9,rfl,y3,rfl⟩))
   refine bodyPost_ret (v:=.tuple #[.string (an9 (av2 (s.extract 4 s.size))),.bool (av2 (s.extract 4 s.size)).isSome]) ?_ rfl (b4.mk (by rw[HV.out]))
   simp[results,Tryz.results19,go_sem]
 ·have c0:decide ((s.size:Int)<4)=true:=by simp;omega
  have HV:=lH (show U9 s=none by rw[U9,ak4,decide_eq_false h4];rfl)
  go_enter Tryz.func19,Tryz.ntmps19
  go_wp2_with (fail)
  refine bodyPost_ret (v:=.tuple #[.string ⟨#[]⟩,.bool false]) ?_ rfl (b4.mk (by rw[HV.out];rfl))
  simp[results,Tryz.results19,go_sem]
