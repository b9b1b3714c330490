/- The contracts of HearMissing, and of the copies of a sender of a file. No condition but on sizes. -/
import Derived.Test.YtdoilejecjaldaaGreatHFileO
namespace Go.Proofs.YtdoilejecjaldaaGreat
set_option maxRecDepth 100000
set_option maxHeartbeats 2000000
set_option linter.unusedVariables false
open Go.ChangeShapes Go.WideShapes Go.ChangeAt Go.RowKit
theorem aA2{a:Option Addr}{n c:Nat}{f:Int}{s:ByteArray}{d:Bool}{q:List Int}{w:World}(hs:Sl K0 w a q)(hn:q.length=n)(hm:n≤100000000) :
  Calls Tryz.prog 113 #[.agg #[.int .i64 f,.string s,.slice a n c,.bool d]] w (aX2 w f s q d):=by
 go_enter Tryz.func113,Tryz.ntmps113
 go_wp2_with (fail)
 refine(aY3 (hs.to ii) hn (by omega)).mono ?_
 rintro _ _ ⟨a1,c1,rfl,o1,y1,rfl⟩
 have O1:=lH (o1.mono (B':=w.heap.size+2) (by simp));clear o1
 go_wp2_with (fail)
 refine bodyPost_ret (v:=.agg #[.int .i64 f,.string s,.slice a1 n c1,.bool d]) ?_ rfl ⟨a1,c1,by rw[hn],?_,?_⟩
 ·simp[results,Tryz.results113,go_sem]
 ·have O2:=O1.out
  refine Own.mono (B:=w.heap.size+2) ?_ (by omega)
  repeat(first|(with_reducible exact O2)|(with_reducible refine Own.lowS ?_ (by omega) _ _))
 ·exact b5.of
theorem aG0{a:Option Addr}{n c:Nat}{f:Int}{s:ByteArray}{d:Bool}{q:List Int}{w:World}(hs:Sl K0 w a q)(hnil:a=none→c=0)(hn:q.length=n)(hm:n≤100000000) :
  Calls Tryz.prog 72 #[.agg #[.int .i64 f,.string s,.slice a n c,.bool d]] w (aX2 w f s q d):=by
 have HNIL:=lH hnil;clear hnil
 go_enter Tryz.func72,Tryz.ntmps72
 go_wp2_with (first|(at_builtin;refine J9 (enc:=K0) (w0:=(w.alloc (.cells #[.int .i64 f,.string s,.slice a n c,.bool d] 155)).alloc (.cells #[.int .i64 0,.string ⟨#[]⟩,.slice none 0 0,.bool false] 155)) (z:=.int .i64 0) (size:=1) (bytes:=8) (n:=0) (l:=[]) rfl (.tmp 3) (.tmp 5) rfl Tryz.underlying46 kr rfl (by decide) (by decide) rfl rfl HNIL.out rfl hn (Own.emptyAt ak9 LeN.out (by simp)) (hs.to ii) af5 (by omega) ?_;intro sa1 sc1 x1 hown1 hgr1;rw[List.nil_append]at hown1;have O1:=lH (hown1.mono (B':=w.heap.size+2) (by simp));clear hown1 hgr1))
 refine bodyPost_ret (v:=.agg #[.int .i64 f,.string s,.slice sa1 n sc1,.bool d]) ?_ rfl ⟨sa1,sc1,by rw[hn],?_,?_⟩
 ·simp[results,Tryz.results72,go_sem]
 ·have O2:=O1.out
  refine Own.mono (B:=w.heap.size+2) ?_ (by omega)
  repeat(first|(with_reducible exact O2)|(with_reducible refine Own.lowS ?_ (by omega) _ _))
 ·exact b5.of
def af9(m:Int)(l:List Int):List Int:=l.filter (fun x=>inB x 0 (m - 1))
def Y5(f:Int)(size:Int)(q:List Int)(file:Int)(l:List Int):List Int :=
 if (L8 f size q && (file == f))=true then
  if l.length=0 then[]else if L8 f size (q++af9 (L7 size) l++[-1])=true then q++af9 (L7 size) l++[-1]else q
 else q
def af7(f:Int)(size:Int)(q:List Int)(d:Bool)(file:Int)(l:List Int):Bool :=
 if (L8 f size q && (file == f))=true then if l.length=0 then true else d else d
theorem bv9{f size file:Int}{q l:List Int}{d:Bool}(q1:L8 f size q=true)(q2:(file == f)=true)(hl:l≠[])(q5:L8 f size (q++af9 (L7 size) l++[-1])=false):Y5 f size q file l=q∧af7 f size q d file l=d:=by
 have h:¬ l.length=0:=fun e=>hl (List.length_eq_zero_iff.1 e)
 unfold Y5 af7
 rw[q1,q2,q5]
 simp only[Bool.and_self,if_true,if_neg h,Bool.false_eq_true,if_false]
 exact⟨trivial,trivial⟩
theorem bk2{f size file:Int}{q l:List Int}{d:Bool}(q1:L8 f size q=true)(q2:(file == f)=true)(hl:l≠[])(q5:L8 f size (q++af9 (L7 size) l++[-1])=true):Y5 f size q file l=q++af9 (L7 size) l++[-1]∧af7 f size q d file l=d:=by
 have h:¬ l.length=0:=fun e=>hl (List.length_eq_zero_iff.1 e)
 unfold Y5 af7
 rw[q1,q2,q5]
 simp only[Bool.and_self,if_true,if_neg h]
 exact⟨trivial,trivial⟩
theorem aY8{a b:Option Addr}{n n2 c c2:Nat}{f file:Int}{s:ByteArray}{d:Bool}{q l:List Int}{w:World}(hs:Sl K0 w a q)(hs2:Sl K0 w b l)(hn:q.length=n)(hn2:l.length=n2)(hm:n≤100000000)(hm2:n2≤100000000)(hsz:s.size≤100000000) :
  Calls Tryz.prog 128 #[.agg #[.int .i64 f,.string s,.slice a n c,.bool d],.int .i64 file,.slice b n2 c2] w (aX2 w f s (Y5 f s.size q file l) (af7 f s.size q d file l)):=by
 go_enter Tryz.func128,Tryz.ntmps128
 go_wp2_with (fail)
 refine(aA2 (hs.to ii) hn (by omega)).mono ?_
 rintro _ _ ⟨a1,c1,rfl,o1,y1,rfl⟩
 rw[hn]
 have O1:=lH (o1.mono (B':=w.heap.size+2) (by simp));clear o1
 go_wp2_with (fail)
 refine gm (ax4 (hs.to ii) hn (by omega) hsz) ?_
 intro y2
 cases q1:L8 f s.size q
 ·have HQ:=lH (show Y5 f s.size q file l=q∧af7 f s.size q d file l=d by simp[Y5,af7,q1])
  go_wp2_with (fail)
  refine bodyPost_ret (v:=.agg #[.int .i64 f,.string s,.slice a1 n c1,.bool d]) ?_ rfl ⟨a1,c1,by rw[HQ.out.1,HQ.out.2,hn],?_,?_⟩
  ·simp[results,Tryz.results128,go_sem]
  ·have O2:=O1.out.to (ii:d5 y1.w y2.w)
   rw[HQ.out.1]
   refine Own.mono (B:=w.heap.size+2) ?_ (by omega)
   repeat(first|(with_reducible exact O2)|(with_reducible refine Own.lowS ?_ (by omega) _ _))
  ·exact b5.of
 ·cases q2:(file == f)
  ·have HQ:=lH (show Y5 f s.size q file l=q∧af7 f s.size q d file l=d by simp[Y5,af7,q1,q2])
   have q3:(file != f)=true:=by simp[bne,q2]
   go_wp2_with (fail)
   refine bodyPost_ret (v:=.agg #[.int .i64 f,.string s,.slice a1 n c1,.bool d]) ?_ rfl ⟨a1,c1,by rw[HQ.out.1,HQ.out.2,hn],?_,?_⟩
   ·simp[results,Tryz.results128,go_sem]
   ·have O2:=O1.out.to (ii:d5 y1.w y2.w)
    rw[HQ.out.1]
    refine Own.mono (B:=w.heap.size+2) ?_ (by omega)
    repeat(first|(with_reducible exact O2)|(with_reducible refine Own.lowS ?_ (by omega) _ _))
   ·exact b5.of
  ·have q3:(file != f)=false:=by simp[bne,q2]
   by_cases hz:n2=0
   ·have HQ:=lH (show Y5 f s.size q file l=[]∧af7 f s.size q d file l=true by simp[Y5,af7,q1,q2,hn2,hz])
    have hz2:((n2:Int) == 0)=true:=by simp[hz]
    have HZ:=lH hz;clear hz
    go_wp2_with (fail)
    refine bodyPost_ret (v:=.agg #[.int .i64 f,.string s,.slice none 0 0,.bool true]) ?_ rfl ⟨none,0,by rw[HQ.out.1,HQ.out.2];rfl,?_,?_⟩
    ·simp[results,Tryz.results128,go_sem]
    ·rw[HQ.out.1];exact Own.nil ak9
    ·exact b5.of
   ·have hz2:((n2:Int) == 0)=false:=by simp;omega
    have hcs:=ap9 s.size
    have hl0:l≠[]:=by rintro rfl;simp at hn2;omega
    have LT:=i9.new y1.w [.int .i64 f,.string s,.slice a1 n c1,.bool d] 155 y1.w.heap.size rfl
    have HQ:=lH (LT.to (ii:d5 _ y2.w))
    have hown0:=lH (O1.out.to (ii:d5 y1.w y2.w))
    clear LT O1
    have hgb:LeN ((w.alloc (.cells #[.int .i64 f,.string s,.slice a n c,.bool d] 155)).alloc (.cells #[.int .i64 0,.string ⟨#[]⟩,.slice none 0 0,.bool false] 155)).heap.size y1.w.heap.size:=inferInstance
    obtain⟨gb,hge⟩:∃ g,y1.w.heap.size=g:=⟨_,rfl⟩
    obtain⟨Y,hY⟩:=b5.of (w:=(w.alloc (.cells #[.int .i64 f,.string s,.slice a n c,.bool d] 155)).alloc (.cells #[.int .i64 0,.string ⟨#[]⟩,.slice none 0 0,.bool false] 155)) (W:=y2.w)
    rw[hge]at HQ hgb
    rw[hY]at HQ hown0 ⊢
    simp only[hge]
    have hown1:=lH (hown0.out.mono (B':=((w.alloc (.cells #[.int .i64 f,.string s,.slice a n c,.bool d] 155)).alloc (.cells #[.int .i64 0,.string ⟨#[]⟩,.slice none 0 0,.bool false] 155)).heap.size) (by simp))
    clear hown0 hY hge y1 y2
    go_wp2_with (fail)
    go_loopw [30] (fun v wr=>∃ (k m:Nat) (acc:List Int) (sa:Option Addr) (sc:Nat),v=.int .i64 k∧k≤n2∧acc.length=m∧m≤n+k∧Hid (acc++af9 (L7 s.size) (l.drop k)=q++af9 (L7 s.size) l)∧Hid (i9 wr gb [.int .i64 f,.string s,.slice sa m sc,.bool d] 155)∧Hid (Own K0 3 1 ((w.alloc (.cells #[.int .i64 f,.string s,.slice a n c,.bool d] 155)).alloc (.cells #[.int .i64 0,.string ⟨#[]⟩,.slice none 0 0,.bool false] 155)).heap.size wr sa sc acc)∧∃ y:b5 ((w.alloc (.cells #[.int .i64 f,.string s,.slice a n c,.bool d] 155)).alloc (.cells #[.int .i64 0,.string ⟨#[]⟩,.slice none 0 0,.bool false] 155)),wr=y.w) (fun v _=>(n2 - intOf v).toNat)
    case atStart=>exact⟨0,n,q,a1,c1,rfl,by omega,hn,by omega,rfl,HQ,hown1,b5.of⟩
    case round =>
     obtain⟨k,m,acc,sa,sc,rfl,hk,hacc,hmk,hf,HQ',HO',y,rfl⟩:=hrel
     clear HQ hown1
     obtain⟨e0,e1,e2,e3,k0,k1,k2,k3⟩:=HQ'.out.four
     have hlt:=HQ'.out.ltN
     by_cases h:k<n2
     ·obtain⟨b1,off,v,rfl,hb,hd,h0⟩:=hs2.int (show k<l.length by omega)
      cases cc:inB v 0 (L7 s.size - 1)
      ·go_wp2_with (first|(go_at_call 218;refine gm (ai6) ?_;intro x)|(go_at_call 114;refine gm (d6) ?_;intro x))
       go_roundw
       case rel=>exact⟨k+1,m,acc,sa,sc,by go_num,by omega,hacc,by omega,by have:=hf.out;rw[hd.out,af9,List.filter_cons_of_neg (by rw[cc];simp)]at this;exact this,HQ'.out.to ii,HO'.out.to ii,b5.of⟩
       case measure=>simp[intOf];omega
      ·have hown:=HO'.out
       go_wp2_with (first|(go_at_call 218;refine gm (ai6) ?_;intro x)|(go_at_call 114;refine gm (d6) ?_;intro x)|((at_builtin;refine aE0 (enc:=K0) (w0:=_) (z:=.int .i64 0) (size:=1) (bytes:=8) v rfl (.tmp 42) (.tmp 44) rfl Tryz.underlying46 kr rfl (by decide) (by decide) rfl rfl hacc (Own.to hown ii) rfl (af5 _) (by omega) ?_;intro sa1 sc1 x1 hown1 hgr1);have HQ1:=(HQ'.out.to ii).kept (Own.to hown ii) (by decide) hgr1;obtain⟨e0',e1',e2',e3',k0',k1',k2',k3'⟩:=HQ1.four;have hlt1:=HQ1.ltN;have HH1:=lH HQ1;have HOW1:=lH hown1;clear HQ1 hown1 hgr1))
       go_roundw
       case rel=>exact⟨k+1,m+1,acc++[v],sa1,sc1,by go_num,by omega,by simp[hacc],by omega,by have:=hf.out;rw[hd.out,af9,List.filter_cons_of_pos (by rw[cc])]at this;simpa[Hid,af9]using this,HH1.out.set 2 _,HOW1.out.set HH1.out (by decide) 2 _,b5.of⟩
       case measure=>simp[intOf];omega
     ·have hf':=hf.out
      rw[List.drop_of_length_le (by omega),af9,List.filter_nil,List.append_nil]at hf'
      have hown:=HO'.out
      have HF:=lH hf';clear hf hf'
      go_wp2_with (first|((at_builtin;refine aE0 (enc:=K0) (w0:=_) (z:=.int .i64 0) (size:=1) (bytes:=8) (-1:Int) rfl (.tmp 49) (.tmp 50) rfl Tryz.underlying46 kr rfl (by decide) (by decide) rfl rfl hacc (Own.to hown ii) rfl (af5 _) (by omega) ?_;intro sa1 sc1 x1 hown1 hgr1);have HQ1:=(HQ'.out.to ii).kept (Own.to hown ii) (by decide) hgr1;obtain⟨e0',e1',e2',e3',k0',k1',k2',k3'⟩:=HQ1.four;have hlt1:=HQ1.ltN;have HQ2:i9 (x1.set ⟨gb,2,none⟩ (.slice sa1 (m+1) sc1)).w gb [.int .i64 f,.string s,.slice sa1 (m+1) sc1,.bool d] 155:=HQ1.set 2 _;have HO2:Own K0 3 1 ((w.alloc (.cells #[.int .i64 f,.string s,.slice a n c,.bool d] 155)).alloc (.cells #[.int .i64 0,.string ⟨#[]⟩,.slice none 0 0,.bool false] 155)).heap.size (x1.set ⟨gb,2,none⟩ (.slice sa1 (m+1) sc1)).w sa1 sc1 (acc++[-1]):=hown1.set HQ1 (by decide) 2 _;obtain⟨i0,i1,i2,i3,j0,j1,j2,j3⟩:=HQ2.four;have HH1:=lH HQ1;have HH2:=lH HQ2;have HOW2:=lH HO2;clear HQ1 HQ2 HO2 hown1 hgr1))
      have hl1:(acc++[-1]).length=m+1:=by simp[hacc]
      refine gm (ax4 HOW2.out.sl hl1 (by omega) hsz) ?_
      intro y5
      have h5:=HOW2.out.to (ii:d5 _ y5.w)
      have h6:=HH2.out.to (ii:d5 _ y5.w)
      obtain⟨Z,hZ⟩:=b5.of (w:=((w.alloc (.cells #[.int .i64 f,.string s,.slice a n c,.bool d] 155)).alloc (.cells #[.int .i64 0,.string ⟨#[]⟩,.slice none 0 0,.bool false] 155))) (W:=y5.w)
      rw[hZ]at h5 h6 ⊢
      clear hZ y5 HOW2 HH2 HH1 HQ' HO' hown e0 e1 e2 e3 k0 k1 k2 k3 e0' e1' e2' e3' k0' k1' k2' k3' i0 i1 i2 i3 j0 j1 j2 j3 hlt hlt1
      obtain⟨e0,e1,e2,e3,k0,k1,k2,k3⟩:=h6.four
      have hlt:=h6.ltN
      have H5:=lH (h5.mono (B':=w.heap.size+2) (by simp));clear h5 h6
      rw[HF.out]at H5 ⊢
      cases q5:L8 f s.size (q++af9 (L7 s.size) l++[-1])
      ·have HQ:=lH (bv9 (d:=d) q1 q2 hl0 q5)
       go_wp2_with (fail)
       refine(aA2 (hs.to ii) hn (by omega)).mono ?_
       rintro _ _ ⟨a9,c9,rfl,o9,y9,rfl⟩
       rw[hn]
       have O1:=lH (o9.mono (B':=w.heap.size+2) (LeN.out (a:=w.heap.size+2)));clear o9
       go_wp2_with (fail)
       refine bodyPost_ret (v:=.agg #[.int .i64 f,.string s,.slice a9 n c9,.bool d]) ?_ rfl ⟨a9,c9,by rw[HQ.out.1,HQ.out.2,hn],?_,?_⟩
       ·simp[results,Tryz.results128,go_sem]
       ·have O2:Own K0 3 1 (w.heap.size+2) (Z.andThen y9).w a9 c9 q:=O1.out
        rw[HQ.out.1]
        refine Own.mono (B:=w.heap.size+2) ?_ (by omega)
        repeat(first|(with_reducible exact O2)|(with_reducible refine Own.lowS ?_ (by omega) _ _))
       ·exact b5.of
      ·have HQ:=lH (bk2 (d:=d) q1 q2 hl0 q5)
       rw[HF.out]at hl1
       go_wp2_with (fail)
       refine bodyPost_ret (v:=.agg #[.int .i64 f,.string s,.slice sa1 (m+1) sc1,.bool d]) ?_ rfl ⟨sa1,sc1,by rw[HQ.out.1,HQ.out.2,hl1],?_,?_⟩
       ·simp[results,Tryz.results128,go_sem]
       ·have O2:=H5.out
        rw[HQ.out.1]
        refine Own.mono (B:=w.heap.size+2) ?_ (by omega)
        repeat(first|(with_reducible exact O2)|(with_reducible refine Own.lowS ?_ (by omega) _ _))
       ·exact b5.of
