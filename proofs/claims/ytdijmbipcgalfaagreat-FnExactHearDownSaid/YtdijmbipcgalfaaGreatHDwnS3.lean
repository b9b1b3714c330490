/- PushFrame of the reference. No condition but on sizes. -/
import Derived.Test.YtdijmbipcgalfaaGreatHDwnI3
import Derived.Test.YtdijmbipcgalfaaGreatHM47
import Derived.Deep.CutRange
import Derived.Deep.CutBlock
namespace Go.Proofs.YtdijmbipcgalfaaGreat
set_option maxRecDepth 100000
set_option maxHeartbeats 4000000
set_option linter.unusedVariables false
open Go.ChangeShapes Go.WideShapes Go.ChangeAt Go.RowKit
private abbrev ap1:=Tryz.underlying71
theorem bp8{u:f9}{w:World}(h0:0≤u.Lost)(h1:u.Lost≤1000000):Calls Tryz.prog 112 #[.agg #[I u.Channel,I u.Next,.bool u.Synced,.string u.Rest,I u.Lost]] w (b5 w (.agg #[I (D0 u).Channel,I (D0 u).Next,.bool (D0 u).Synced,.string (D0 u).Rest,I (D0 u).Lost])):=by
 by_cases c1:u.Lost+1≤1000000
 ·have HV:=lH (show(D0 u).Lost=u.Lost+1 by simp only[D0];rw[if_pos om])
  go_enter Tryz.func112,Tryz.ntmps112
  go_wp2_with (fail)
  refine bodyPost_ret (v:=.agg #[I u.Channel,I u.Next,.bool false,.string ⟨#[]⟩,I (u.Lost+1)]) (A7 (P:=Tryz.prog) rfl rfl (j5.new (w.alloc (.cells #[I u.Channel,I u.Next,.bool false,.string ⟨#[]⟩,I (u.Lost+1)] 71)) [I u.Channel,I u.Next,.bool false,.string ⟨#[]⟩,I (u.Lost+1)] 71 (w.heap.size+1) si) _ ap1 rfl kr) rfl ⟨?_,b7.of⟩
  rw[← HV.out];rfl
 ·have HV:=lH (show(D0 u).Lost=1000000 by simp only[D0];split<;>omega)
  go_enter Tryz.func112,Tryz.ntmps112
  go_wp2_with (fail)
  refine bodyPost_ret (v:=.agg #[I u.Channel,I u.Next,.bool false,.string ⟨#[]⟩,I (1000000)]) (A7 (P:=Tryz.prog) rfl rfl (j5.new (w.alloc (.cells #[I u.Channel,I u.Next,.bool false,.string ⟨#[]⟩,I (1000000)] 71)) [I u.Channel,I u.Next,.bool false,.string ⟨#[]⟩,I (1000000)] 71 (w.heap.size+1) si) _ ap1 rfl kr) rfl ⟨?_,b7.of⟩
  rw[← HV.out];rfl
theorem bp4{u:f9}{f:aa1}{w:World}(hzu:u.Rest.size≤100000000)(hzf:f.Data.size≤100000000):Calls Tryz.prog 25 #[.agg #[I u.Channel,I u.Next,.bool u.Synced,.string u.Rest,I u.Lost],.agg #[I f.Channel,I f.Count,I f.First,.string f.Data]] w (bL3 w (I2 u f)):=by
 have HU0:=lH ((j5.new w [I u.Channel,I u.Next,.bool u.Synced,.string u.Rest,I u.Lost] 71 w.heap.size rfl).to (ii:b8 _ ((((w.alloc (.cells #[I u.Channel,I u.Next,.bool u.Synced,.string u.Rest,I u.Lost] 71)).alloc (.cells #[I f.Channel,I f.Count,I f.First,.string f.Data] 107)).alloc (.cells #[I 0,I 0,.bool false,.string ⟨#[]⟩,I 0] 71)).alloc (.cells #[] 117))))
 have HF0:=lH ((j5.new (w.alloc (.cells #[I u.Channel,I u.Next,.bool u.Synced,.string u.Rest,I u.Lost] 71)) [I f.Channel,I f.Count,I f.First,.string f.Data] 107 (w.heap.size+1) si).to (ii:b8 _ ((((w.alloc (.cells #[I u.Channel,I u.Next,.bool u.Synced,.string u.Rest,I u.Lost] 71)).alloc (.cells #[I f.Channel,I f.Count,I f.First,.string f.Data] 107)).alloc (.cells #[I 0,I 0,.bool false,.string ⟨#[]⟩,I 0] 71)).alloc (.cells #[] 117))))
 have HR0:=lH ((j5.new ((w.alloc (.cells #[I u.Channel,I u.Next,.bool u.Synced,.string u.Rest,I u.Lost] 71)).alloc (.cells #[I f.Channel,I f.Count,I f.First,.string f.Data] 107)) [I 0,I 0,.bool false,.string ⟨#[]⟩,I 0] 71 (w.heap.size+2) si).to (ii:b8 _ ((((w.alloc (.cells #[I u.Channel,I u.Next,.bool u.Synced,.string u.Rest,I u.Lost] 71)).alloc (.cells #[I f.Channel,I f.Count,I f.First,.string f.Data] 107)).alloc (.cells #[I 0,I 0,.bool false,.string ⟨#[]⟩,I 0] 71)).alloc (.cells #[] 117))))
 have gW:b8 w ((((w.alloc (.cells #[I u.Channel,I u.Next,.bool u.Synced,.string u.Rest,I u.Lost] 71)).alloc (.cells #[I f.Channel,I f.Count,I f.First,.string f.Data] 107)).alloc (.cells #[I 0,I 0,.bool false,.string ⟨#[]⟩,I 0] 71)).alloc (.cells #[] 117)):=inferInstance
 have hsz:((((w.alloc (.cells #[I u.Channel,I u.Next,.bool u.Synced,.string u.Rest,I u.Lost] 71)).alloc (.cells #[I f.Channel,I f.Count,I f.First,.string f.Data] 107)).alloc (.cells #[I 0,I 0,.bool false,.string ⟨#[]⟩,I 0] 71)).alloc (.cells #[] 117)).heap.size=w.heap.size+4:=by simp
 have OE:=lH (Own.emptyAt (enc:=M6) (T:=117) (W:=(((w.alloc (.cells #[I u.Channel,I u.Next,.bool u.Synced,.string u.Rest,I u.Lost] 71)).alloc (.cells #[I f.Channel,I f.Count,I f.First,.string f.Data] 107)).alloc (.cells #[I 0,I 0,.bool false,.string ⟨#[]⟩,I 0] 71))) (B:=w.heap.size+3) (g:=w.heap.size+3) ai7 si si)
 go_enter Tryz.func25,Tryz.ntmps25
 go_upto_region 2 with(fail)
 generalize ((((w.alloc (.cells #[I u.Channel,I u.Next,.bool u.Synced,.string u.Rest,I u.Lost] 71)).alloc (.cells #[I f.Channel,I f.Count,I f.First,.string f.Data] 107)).alloc (.cells #[I 0,I 0,.bool false,.string ⟨#[]⟩,I 0] 71)).alloc (.cells #[] 117))=W2 at HU0 HF0 HR0 gW hsz OE ⊢
 have iB:LtN w.heap.size W2.heap.size:=⟨by omega⟩
 have iF:LtN (w.heap.size+1) W2.heap.size:=⟨by omega⟩
 have iR:LtN (w.heap.size+2) W2.heap.size:=⟨by omega⟩
 have u0:=HU0.out.cellG 0 _ rfl
 have u1:=HU0.out.cellG 1 _ rfl
 have f0:=HF0.out.cellG 0 _ rfl
 have f1:=HF0.out.cellG 1 _ rfl
 have f2:=HF0.out.cellG 2 _ rfl
 have f3:=HF0.out.cellG 3 _ rfl
 cases a1:j6 u
 ·have HK:=lH (show I2 u f=(u,[])by rw[I2,if_neg (by rintro⟨h1,h2,h3⟩;simp_all)])
  go_wp2_with (first|(refine lA rfl _ (.tmp 2) rfl (w.heap.size) 0 kr [I u.Channel,I u.Next,.bool u.Synced,.string u.Rest,I u.Lost] HU0 ap1 ?_)|(refine lA rfl _ (.tmp 3) rfl (w.heap.size+1) 0 kr [I f.Channel,I f.Count,I f.First,.string f.Data] HF0 Tryz.underlying107 ?_)|(go_at_call 111;refine gm (M5 (x:=u) om) ?_;intro y1;rw[a1])|(go_at_call 110;refine gm (au3 (x:=f) hzf) ?_;intro y2;rw[a2])|(refine sB rfl _ _ (.tmp 26) rfl (w.heap.size+2) 0 kr [I u.Channel,I u.Next,.bool u.Synced,.string u.Rest,I u.Lost] HR0 w om ?_;intro z9 HX9 KX9))
  refine bodyPost_ret (v:=.tuple #[.agg #[I u.Channel,I u.Next,.bool u.Synced,.string u.Rest,I u.Lost],.slice (some ⟨w.heap.size+3,0,none⟩) 0 0]) (A0 (P:=Tryz.prog) (u:=.slice (some ⟨w.heap.size+3,0,none⟩) 0 0) rfl rfl HX9.out _ ap1 rfl kr rfl) rfl ⟨some ⟨w.heap.size+3,0,none⟩,0,by rw[HK.out];rfl,by rw[HK.out];exact(((OE.out.to (ii:b8 W2 _)).same fun j hj _ hl=>KX9.out.block j (by cases hj;omega) hl).mono om).to ii,b7.of⟩
 cases a2:B7 f
 ·have HK:=lH (show I2 u f=(u,[])by rw[I2,if_neg (by rintro⟨h1,h2,h3⟩;simp_all)])
  go_wp2_with (first|(refine lA rfl _ (.tmp 2) rfl (w.heap.size) 0 kr [I u.Channel,I u.Next,.bool u.Synced,.string u.Rest,I u.Lost] HU0 ap1 ?_)|(refine lA rfl _ (.tmp 3) rfl (w.heap.size+1) 0 kr [I f.Channel,I f.Count,I f.First,.string f.Data] HF0 Tryz.underlying107 ?_)|(go_at_call 111;refine gm (M5 (x:=u) om) ?_;intro y1;rw[a1])|(go_at_call 110;refine gm (au3 (x:=f) hzf) ?_;intro y2;rw[a2])|(refine sB rfl _ _ (.tmp 26) rfl (w.heap.size+2) 0 kr [I u.Channel,I u.Next,.bool u.Synced,.string u.Rest,I u.Lost] HR0 w om ?_;intro z9 HX9 KX9))
  refine bodyPost_ret (v:=.tuple #[.agg #[I u.Channel,I u.Next,.bool u.Synced,.string u.Rest,I u.Lost],.slice (some ⟨w.heap.size+3,0,none⟩) 0 0]) (A0 (P:=Tryz.prog) (u:=.slice (some ⟨w.heap.size+3,0,none⟩) 0 0) rfl rfl HX9.out _ ap1 rfl kr rfl) rfl ⟨some ⟨w.heap.size+3,0,none⟩,0,by rw[HK.out];rfl,by rw[HK.out];exact(((OE.out.to (ii:b8 W2 _)).same fun j hj _ hl=>KX9.out.block j (by cases hj;omega) hl).mono om).to ii,b7.of⟩
 cases a3:(u.Channel != f.Channel)
 ·have ua:=Z0.1 a1
  have fc:=(aq9 a2).2.1
  have HUA:=lH a1;have HFA:=lH a2
  have HK:=lH (show I2 u f=(aB5 (ae2 (Y6 u f) f),(pkts (ae2 (Y6 u f) f).Rest).2)by rw[I2,if_pos ⟨a1,a2,by simpa using a3⟩])
  go_upto_region 4 with(first|(refine lA rfl _ (.tmp 2) rfl (w.heap.size) 0 kr [I u.Channel,I u.Next,.bool u.Synced,.string u.Rest,I u.Lost] HU0 ap1 ?_)|(refine lA rfl _ (.tmp 3) rfl (w.heap.size+1) 0 kr [I f.Channel,I f.Count,I f.First,.string f.Data] HF0 Tryz.underlying107 ?_)|(go_at_call 111;refine gm (M5 (x:=u) om) ?_;intro y1;rw[a1])|(go_at_call 110;refine gm (au3 (x:=f) hzf) ?_;intro y2;rw[a2]))
  clear a1 a2 a3
  go_cut [37]from 26 (fun s wx=>s=.bool (ap7 u f)∧∃ y:b7 W2,wx=y.w)
  case first =>
   cases d1:(u.Next != -1)
   ·go_wp2_with (fail)
    go_meet
    case rel=>exact⟨by first|rfl|simp[ap7,d1],b7.of⟩
   ·cases d2:(u.Next != f.Count)
    ·go_wp2_with (fail)
     go_meet
     case rel=>exact⟨by first|rfl|simp[ap7,d1,d2]|simp[ap7,d1],b7.of⟩
    ·go_wp2_with (fail)
     go_meet
     case rel=>exact⟨by first|rfl|simp[ap7,d1,d2]|simp[ap7,d1],b7.of⟩
  case rest =>
   obtain⟨rfl,y0,rfl⟩:=hcut
   go_upto_if 37 with fail
   go_cut []from 37 (fun wx=>Hid (j5 wx w.heap.size [I (Y6 u f).Channel,I (Y6 u f).Next,.bool (Y6 u f).Synced,.string (Y6 u f).Rest,I (Y6 u f).Lost] 71)∧Hid (j5 wx (w.heap.size+1) [I f.Channel,I f.Count,I f.First,.string f.Data] 107)∧Hid (j5 wx (w.heap.size+2) [I 0,I 0,.bool false,.string ⟨#[]⟩,I 0] 71)∧Hid (Own M6 117 3 (w.heap.size+3) wx (some ⟨w.heap.size+3,0,none⟩) 0 [])∧∃ y:b7 w,wx=y.w)
   case first =>
    cases hl:ap7 u f
    ·have e:Y6 u f=u:=by rw[aO6,hl];rfl
     go_wp2_with (fail)
     go_meet
     case rel=>exact⟨by rw[e];exact HU0.out.to ii,HF0.out.to ii,HR0.out.to ii,lH (OE.out.to ii),b7.of⟩
    ·have e:Y6 u f=D0 u:=by rw[aO6,hl];rfl
     go_wp2_with (first|(refine lA rfl _ (.tmp 2) rfl (w.heap.size) 0 kr [I u.Channel,I u.Next,.bool u.Synced,.string u.Rest,I u.Lost] HU0 ap1 ?_)|(go_at_call 112;refine gm (bp8 (u:=u) ua.2.2.1.1 ua.2.2.1.2) ?_;intro y3)|(refine sB rfl _ (.tmp 2) (.tmp 39) rfl (w.heap.size) 0 kr [I (D0 u).Channel,I (D0 u).Next,.bool (D0 u).Synced,.string (D0 u).Rest,I (D0 u).Lost] HU0 w nl ?_;intro z1 HX1 KX1))
     go_meet
     case rel=>exact⟨by rw[e];exact HX1.out.to ii,lH ((HF0.out.to (ii:b8 W2 _)).but KX1.out om),lH ((HR0.out.to (ii:b8 W2 _)).but KX1.out om),lH ((W7 (OE.out.to (ii:b8 W2 _)) KX1.out (fun j hj=>by cases hj;show w.heap.size+3≠w.heap.size;omega))),b7.of⟩
   case rest =>
    obtain⟨HU1,HF1,HR1,HOA1,y3,rfl⟩:=hcut
    have hk1:=bd4 f HUA.out
    obtain⟨v,hv⟩:∃ v,Y6 u f=v:=⟨_,rfl⟩
    rw[hv]at HU1 hk1 HK
    have HZ:=lH (show(ae2 v f).Rest.size≤67 from hv▸aR6 HUA.out HFA.out)
    clear hv u0 u1 f0 f1 f2 f3 HU0 HF0 HR0 iB iF iR
    have va:=Z0.1 hk1
    have f1:=HF1.out.cellG 1 _ rfl
    have iB:LtN w.heap.size y3.w.heap.size:=⟨HU1.out.lt⟩
    have iF:LtN (w.heap.size+1) y3.w.heap.size:=⟨HF1.out.lt⟩
    have iR:LtN (w.heap.size+2) y3.w.heap.size:=⟨HR1.out.lt⟩
    go_upto_block 0 with(first|(refine sA rfl _ (.tmp 44) (.tmp 43) rfl (w.heap.size) 1 kr [I ((f.Count+1) % 256)] [I v.Channel,I ((f.Count+1) % 256),.bool v.Synced,.string v.Rest,I v.Lost] HU1 w nl ?_;intro z2 HX2 KX2))
    (try simp only[Act.put])
    have HF2:=lH (HF1.out.but KX2.out om);have HR2:=lH (HR1.out.but KX2.out om)
    have HOA2:=lH (W7 HOA1.out KX2.out (fun j hj=>by cases hj;show w.heap.size+3≠w.heap.size;omega))
    clear f1 HU1 HF1 HR1 KX2 iB iF iR
    have iB:LtN w.heap.size z2.w.heap.size:=⟨HX2.out.lt⟩
    have iF:LtN (w.heap.size+1) z2.w.heap.size:=⟨HF2.out.lt⟩
    have iR:LtN (w.heap.size+2) z2.w.heap.size:=⟨HR2.out.lt⟩
    have u2:=HX2.out.cellG 2 _ rfl
    have u3:=HX2.out.cellG 3 _ rfl
    have f2:=HF2.out.cellG 2 _ rfl
    have f3:=HF2.out.cellG 3 _ rfl
    go_cut []from 45 (fun wx=>Hid (j5 wx w.heap.size [I (ae2 v f).Channel,I (ae2 v f).Next,.bool (ae2 v f).Synced,.string (ae2 v f).Rest,I (ae2 v f).Lost] 71)∧Hid (j5 wx (w.heap.size+2) [I 0,I 0,.bool false,.string ⟨#[]⟩,I 0] 71)∧Hid (Own M6 117 3 (w.heap.size+3) wx (some ⟨w.heap.size+3,0,none⟩) 0 [])∧∃ y:b7 w,wx=y.w)
    case first =>
     have HFF:=lH (show 0≤f.First∧(f.First≤23∨f.First=255)∧f.Data.size=24 from⟨(aq9 HFA.out).2.2.1.1,(aq9 HFA.out).2.2.1.2,(aq9 HFA.out).2.2.2⟩)
     cases hs:v.Synced
     ·cases c5:(f.First != 255)
      ·have e:ae2 v f={ v with Next:=(f.Count+1) % 256 }:=by rw[ae2,if_neg (by rw[hs];decide),if_neg (by simpa using c5)]
       go_wp2_with (fail)
       go_meet
       case rel=>exact⟨by rw[e];exact HX2.out.to ii,HR2.out.to ii,lH (HOA2.out.to ii),b7.of⟩
      ·have hf5:f.First≠255:=by simpa using c5
       have hf0:=HFF.out.1
       have hf23:f.First≤f.Data.size:=by have:=HFF.out;omega
       have e:ae2 v f={ v with Next:=(f.Count+1) % 256,Rest:=f.Data.extract f.First.toNat f.Data.size,Synced:=true }:=by rw[ae2,if_neg (by rw[hs];decide),if_pos hf5]
       go_wp2_with (first|(refine sA rfl _ (.tmp 63) (.tmp 62) rfl (w.heap.size) 3 kr [.string (f.Data.extract f.First.toNat f.Data.size)] [I v.Channel,I ((f.Count+1) % 256),.bool v.Synced,.string (f.Data.extract f.First.toNat f.Data.size),I v.Lost] HX2 w nl ?_;intro z3 HX3 KX3)|(refine Q7 rfl _ (.tmp 64) (.const (.bool true)) rfl (w.heap.size) 2 kr (us:=[.bool true]) (cs2:=[I v.Channel,I ((f.Count+1) % 256),.bool true,.string (f.Data.extract f.First.toNat f.Data.size),I v.Lost]) (HX3.out.to ii) rfl kr rfl si rfl (w0:=w) ii nl ?_;intro z4 hx4 kx4;have HX4:=lH hx4;clear hx4;have KX4:=lH kx4;clear kx4))
       go_meet
       case rel=>exact⟨by rw[e];exact HX4.out.to ii,lH ((((HR2.out.to (ii:b8 z2.w _)).but KX3.out om).to (ii:b8 z3.w _)).but KX4.out om),lH ((W7 ((W7 (HOA2.out.to (ii:b8 z2.w _)) KX3.out (fun j hj=>by cases hj;show w.heap.size+3≠w.heap.size;omega)).to (ii:b8 z3.w _)) KX4.out (fun j hj=>by cases hj;show w.heap.size+3≠w.heap.size;omega))),b7.of⟩
     ·have e:ae2 v f={ v with Next:=(f.Count+1) % 256,Rest:=v.Rest++f.Data }:=by rw[ae2,if_pos hs]
      go_wp2_with (first|(refine sA rfl _ (.tmp 53) (.tmp 52) rfl (w.heap.size) 3 kr [.string (v.Rest++f.Data)] [I v.Channel,I ((f.Count+1) % 256),.bool v.Synced,.string (v.Rest++f.Data),I v.Lost] HX2 w nl ?_;intro z3 HX3 KX3))
      go_meet
      case rel=>exact⟨by rw[e];exact HX3.out.to ii,lH ((HR2.out.to (ii:b8 z2.w _)).but KX3.out om),lH ((W7 (HOA2.out.to (ii:b8 z2.w _)) KX3.out (fun j hj=>by cases hj;show w.heap.size+3≠w.heap.size;omega))),b7.of⟩
    case rest =>
     obtain⟨HU5,HR5,HOE5,y5,rfl⟩:=hcut
     clear HX2 HR2 HF2 u2 u3 f2 f3
     have hlst:=bl6 v f
     obtain⟨x5,hx5⟩:∃ x5,ae2 v f=x5:=⟨_,rfl⟩
     rw[hx5]at HU5 HZ HK hlst
     clear hx5
     have iB:LtN w.heap.size y5.w.heap.size:=⟨HU5.out.lt⟩
     have iR:LtN (w.heap.size+2) y5.w.heap.size:=⟨HR5.out.lt⟩
     have hs67:=HZ.out
     obtain⟨s0,hs0⟩:∃ s0,x5.Rest=s0:=⟨_,rfl⟩
     rw[hs0]at HU5 hs67
     have HS0:=lH hs0
     clear hs0
     have u3:=HU5.out.cellG 3 _ rfl
     have hl0:0≤x5.Lost:=by rw[hlst.1];exact va.2.2.1.1
     have hl1:x5.Lost≤1000000:=by rw[hlst.1];exact va.2.2.1.2
     clear hlst
     go_wp2_with (fail)
     go_loopw [6] (fun v6 wr=>∃ (s:ByteArray) (n:Nat) (L:List E0) (sa:Option Addr) (sc:Nat),v6=.slice sa n sc∧n+s.size≤67∧L.length=n∧Hid (X4 s.size s L=pkts x5.Rest)∧Hid (j5 wr w.heap.size [I x5.Channel,I x5.Next,.bool x5.Synced,.string s,I x5.Lost] 71)∧Hid (j5 wr (w.heap.size+2) [I 0,I 0,.bool false,.string ⟨#[]⟩,I 0] 71)∧Hid (Own M6 117 3 (w.heap.size+3) wr sa sc L)∧∃ y:b7 w,wr=y.w) (fun _ wr=>bN5 wr w.heap.size 3)
     case atStart=>exact⟨s0,0,[],_,_,rfl,by omega,rfl,lH (by rw[pkts,HS0.out]),HU5.out.to ii,HR5.out.to ii,HOE5.out.to ii,b7.of⟩
     case round =>
      obtain⟨s,n,L,sa,sc,rfl,hns,hL,HGO,HU,HRK,HOL,y,rfl⟩:=hrel
      have iB:LtN w.heap.size y.w.heap.size:=⟨HU.out.lt⟩
      have iR:LtN (w.heap.size+2) y.w.heap.size:=⟨HRK.out.lt⟩
      have u3:=HU.out.cellG 3 _ rfl
      go_wp2_with (fail)
      refine gm (aX7 (s:=s) om) ?_
      intro y6
      cases hd:M2 s with
      | none =>
       rw[bC6]
       have u0:=HU.out.cellG 0 _ rfl
       have u1:=HU.out.cellG 1 _ rfl
       have u2:=HU.out.cellG 2 _ rfl
       have u4:=HU.out.cellG 4 _ rfl
       have HPK:=lH (show pkts x5.Rest=(s,L)by rw[← HGO.out,bC7 hd])
       have HE:=lH (bL7 (u:=x5) (s:=s) (by rw[HPK.out]))
       have HK2:=lH (show I2 u f=(aB5 x5,L)by rw[HK.out,HPK.out])
       clear hd
       cases c4:decide ((4:Int)≤(s.size:Int))
       ·have hb:=(show Y0 s=false by rw[Y0];simp only[Bool.and_eq_false_iff,Bool.or_eq_false_iff,decide_eq_false_iff_not];left;have:=of_decide_eq_false c4;omega)
        have HE2:=lH (show aB5 x5=({ x5 with Rest:=s }:f9)by rw[HE.out,hb];rfl)
        go_upto_region 19 with fail
        go_wp2_with (first|(refine sB rfl _ _ (.tmp 104) rfl (w.heap.size+2) 0 kr [I x5.Channel,I x5.Next,.bool x5.Synced,.string s,I x5.Lost] HRK w om ?_;intro z9 HX9 KX9))
        rw[HK2.out,HE2.out]
        refine bodyPost_ret (v:=.tuple #[.agg #[I x5.Channel,I x5.Next,.bool x5.Synced,.string s,I x5.Lost],.slice sa n sc]) (A0 (P:=Tryz.prog) (u:=.slice sa n sc) rfl rfl HX9.out _ ap1 rfl kr rfl) rfl ⟨sa,sc,by rw[hL],(W7 (HOL.out.to (ii:b8 y.w _)) KX9.out (fun j hj=>by have:=(HOL.out.blk j hj).1;omega)).mono om,b7.of⟩
       ·have h4:4≤s.size:=by have:=of_decide_eq_true c4;omega
        have k0:0<s.size:=by omega
        have k3:3<s.size:=by omega
        have j0:(0:Int)<s.size:=by omega
        have j3:(3:Int)<s.size:=by omega
        obtain⟨d0,e0⟩:∃ d:Int,((s[0]'k0).toNat:Int)=d:=⟨_,rfl⟩
        obtain⟨d3,e3⟩:∃ d:Int,((s[3]'k3).toNat:Int)=d:=⟨_,rfl⟩
        have HB0:=lH (show bAt s 0=d0 by rw[← e0];exact K0 k0)
        have HB3:=lH (show bAt s 3=d3 by rw[← e3];exact K0 k3)
        cases c5:decide ((15:Int)<d0)
        ·cases c6:decide ((40:Int)<d3)
         ·have hb:=(show Y0 s=false by rw[Y0];simp only[Bool.and_eq_false_iff,Bool.or_eq_false_iff,decide_eq_false_iff_not];right;rw[HB0.out,HB3.out];exact⟨of_decide_eq_false c5,of_decide_eq_false c6⟩)
          have HE2:=lH (show aB5 x5=({ x5 with Rest:=s }:f9)by rw[HE.out,hb];rfl)
          go_upto_region 19 with fail
          go_wp2_with (first|(refine sB rfl _ _ (.tmp 104) rfl (w.heap.size+2) 0 kr [I x5.Channel,I x5.Next,.bool x5.Synced,.string s,I x5.Lost] HRK w om ?_;intro z9 HX9 KX9))
          rw[HK2.out,HE2.out]
          refine bodyPost_ret (v:=.tuple #[.agg #[I x5.Channel,I x5.Next,.bool x5.Synced,.string s,I x5.Lost],.slice sa n sc]) (A0 (P:=Tryz.prog) (u:=.slice sa n sc) rfl rfl HX9.out _ ap1 rfl kr rfl) rfl ⟨sa,sc,by rw[hL],(W7 (HOL.out.to (ii:b8 y.w _)) KX9.out (fun j hj=>by have:=(HOL.out.blk j hj).1;omega)).mono om,b7.of⟩
         ·have hb:=(show Y0 s=true by rw[Y0];simp only[Bool.and_eq_true,Bool.or_eq_true,decide_eq_true_eq];refine⟨h4,.inr ?_⟩;rw[HB3.out];exact of_decide_eq_true c6)
          have HE2:=lH (show aB5 x5=D0 ({ x5 with Rest:=s }:f9)by rw[HE.out,hb];rfl)
          go_upto_region 18 with fail
          go_upto_region 19 with(first|(go_at_call 112;refine gm (bp8 (u:=({ x5 with Rest:=s }:f9)) hl0 hl1) ?_;intro y8)|(refine sB rfl _ (.tmp 2) (.tmp 103) rfl (w.heap.size) 0 kr [I (D0 ({ x5 with Rest:=s }:f9)).Channel,I (D0 ({ x5 with Rest:=s }:f9)).Next,.bool (D0 ({ x5 with Rest:=s }:f9)).Synced,.string (D0 ({ x5 with Rest:=s }:f9)).Rest,I (D0 ({ x5 with Rest:=s }:f9)).Lost] HU w nl ?_;intro z8 HX8 KX8))
          (try simp only[Act.put])
          have HR8:=lH ((HRK.out.to (ii:b8 y.w _)).but KX8.out om)
          have HO8:=lH (W7 (HOL.out.to (ii:b8 y.w _)) KX8.out (fun j hj=>by have:=(HOL.out.blk j hj).1;omega))
          clear KX8 u0 u1 u2 u3 u4
          have u0:=HX8.out.cellG 0 _ rfl
          have u1:=HX8.out.cellG 1 _ rfl
          have u2:=HX8.out.cellG 2 _ rfl
          have u3:=HX8.out.cellG 3 _ rfl
          have u4:=HX8.out.cellG 4 _ rfl
          go_wp2_with (first|(refine sB rfl _ _ (.tmp 104) rfl (w.heap.size+2) 0 kr [I (D0 ({ x5 with Rest:=s }:f9)).Channel,I (D0 ({ x5 with Rest:=s }:f9)).Next,.bool (D0 ({ x5 with Rest:=s }:f9)).Synced,.string (D0 ({ x5 with Rest:=s }:f9)).Rest,I (D0 ({ x5 with Rest:=s }:f9)).Lost] HR8 w om ?_;intro z9 HX9 KX9))
          rw[HK2.out,HE2.out]
          refine bodyPost_ret (v:=.tuple #[.agg #[I (D0 ({ x5 with Rest:=s }:f9)).Channel,I (D0 ({ x5 with Rest:=s }:f9)).Next,.bool (D0 ({ x5 with Rest:=s }:f9)).Synced,.string (D0 ({ x5 with Rest:=s }:f9)).Rest,I (D0 ({ x5 with Rest:=s }:f9)).Lost],.slice sa n sc]) (A0 (P:=Tryz.prog) (u:=.slice sa n sc) rfl rfl HX9.out _ ap1 rfl kr rfl) rfl ⟨sa,sc,by rw[hL],(W7 (HO8.out.to (ii:b8 z8.w _)) KX9.out (fun j hj=>by have:=(HO8.out.blk j hj).1;omega)).mono om,b7.of⟩
        ·have hb:=(show Y0 s=true by rw[Y0];simp only[Bool.and_eq_true,Bool.or_eq_true,decide_eq_true_eq];refine⟨h4,.inl ?_⟩;rw[HB0.out];exact of_decide_eq_true c5)
         have HE2:=lH (show aB5 x5=D0 ({ x5 with Rest:=s }:f9)by rw[HE.out,hb];rfl)
         go_upto_region 18 with fail
         go_upto_region 19 with(first|(go_at_call 112;refine gm (bp8 (u:=({ x5 with Rest:=s }:f9)) hl0 hl1) ?_;intro y8)|(refine sB rfl _ (.tmp 2) (.tmp 103) rfl (w.heap.size) 0 kr [I (D0 ({ x5 with Rest:=s }:f9)).Channel,I (D0 ({ x5 with Rest:=s }:f9)).Next,.bool (D0 ({ x5 with Rest:=s }:f9)).Synced,.string (D0 ({ x5 with Rest:=s }:f9)).Rest,I (D0 ({ x5 with Rest:=s }:f9)).Lost] HU w nl ?_;intro z8 HX8 KX8))
         (try simp only[Act.put])
         have HR8:=lH ((HRK.out.to (ii:b8 y.w _)).but KX8.out om)
         have HO8:=lH (W7 (HOL.out.to (ii:b8 y.w _)) KX8.out (fun j hj=>by have:=(HOL.out.blk j hj).1;omega))
         clear KX8 u0 u1 u2 u3 u4
         have u0:=HX8.out.cellG 0 _ rfl
         have u1:=HX8.out.cellG 1 _ rfl
         have u2:=HX8.out.cellG 2 _ rfl
         have u3:=HX8.out.cellG 3 _ rfl
         have u4:=HX8.out.cellG 4 _ rfl
         go_wp2_with (first|(refine sB rfl _ _ (.tmp 104) rfl (w.heap.size+2) 0 kr [I (D0 ({ x5 with Rest:=s }:f9)).Channel,I (D0 ({ x5 with Rest:=s }:f9)).Next,.bool (D0 ({ x5 with Rest:=s }:f9)).Synced,.string (D0 ({ x5 with Rest:=s }:f9)).Rest,I (D0 ({ x5 with Rest:=s }:f9)).Lost] HR8 w om ?_;intro z9 HX9 KX9))
         rw[HK2.out,HE2.out]
         refine bodyPost_ret (v:=.tuple #[.agg #[I (D0 ({ x5 with Rest:=s }:f9)).Channel,I (D0 ({ x5 with Rest:=s }:f9)).Next,.bool (D0 ({ x5 with Rest:=s }:f9)).Synced,.string (D0 ({ x5 with Rest:=s }:f9)).Rest,I (D0 ({ x5 with Rest:=s }:f9)).Lost],.slice sa n sc]) (A0 (P:=Tryz.prog) (u:=.slice sa n sc) rfl rfl HX9.out _ ap1 rfl kr rfl) rfl ⟨sa,sc,by rw[hL],(W7 (HO8.out.to (ii:b8 z8.w _)) KX9.out (fun j hj=>by have:=(HO8.out.blk j hj).1;omega)).mono om,b7.of⟩
      | some x =>
       have hf:=ag1 hd
       obtain⟨z,hz⟩:∃ z,4+x.Data.size=z:=⟨_,rfl⟩
       have hzs:z≤s.size:=by omega
       have hz4:4≤z:=by omega
       have jz:(z:Int)≤(s.size:Int):=by omega
       obtain⟨r,hr⟩:∃ r,s.extract z s.size=r:=⟨_,rfl⟩
       have hrz:r.size+z=s.size:=by rw[← hr];simp only[ByteArray.size_extract];omega
       have HST:=lH (show X4 r.size r (if x.Apid=15 then L else L++[x])=pkts x5.Rest by rw[← HGO.out,bC8 hd,hz,hr])
       clear hf
       rw[bC6]
       have hzi:(4:Int)+(x.Data.size:Int)=(z:Int):=by omega
       simp only[hzi]
       clear hzi hz hd
       go_upto_region 14 with(fail)
       (try simp only[Act.put])
       have HBX:=lH (j5.new (y.andThen y6).w [I x.Apid,I x.Seq,.string x.Data] 117 (y.andThen y6).w.heap.size rfl)
       obtain⟨bx,hbx⟩:∃ bx,(y.andThen y6).w.heap.size=bx:=⟨_,rfl⟩
       have hbx3:w.heap.size+3≤bx:=by have h1:=iR.out;have h2:y.w.heap.size≤(y.andThen y6).w.heap.size:=y6.size_le;omega
       have HNE:=lH (show ∀ k,E9 sa=some k→k≠bx from fun k hk e=>by have h1:=(HOL.out.blk k hk).2;have h2:y.w.heap.size≤(y.andThen y6).w.heap.size:=y6.size_le;omega)
       obtain⟨V,hV⟩:∃ V:b7 y.w,((y.andThen y6).w.alloc (.cells #[I x.Apid,I x.Seq,.string x.Data] 117))=V.w:=b7.of
       rw[hV]at HBX ⊢
       rw[hbx]at HBX ⊢
       clear hV hbx
       have iX:LtN bx V.w.heap.size:=⟨HBX.out.lt⟩
       go_upto_region 15 with(first|(refine sA rfl _ (.tmp 78) (.tmp 77) rfl (w.heap.size) 3 kr [.string r] [I x5.Channel,I x5.Next,.bool x5.Synced,.string r,I x5.Lost] HU w nl ?_;intro z1 HX1 KX1))
       (try simp only[Act.put])
       have HB1:=lH ((HBX.out.to (ii:b8 V.w _)).but KX1.out om)
       have HR1:=lH ((HRK.out.to (ii:b8 y.w V.w)).but KX1.out om)
       have HO1:=lH (W7 (HOL.out.to (ii:b8 y.w V.w)) KX1.out (fun j hj=>by have:=(HOL.out.blk j hj).1;omega))
       clear KX1 u3
       have iB1:LtN w.heap.size z1.w.heap.size:=⟨HX1.out.lt⟩
       have iR1:LtN (w.heap.size+2) z1.w.heap.size:=⟨HR1.out.lt⟩
       have iX1:LtN bx z1.w.heap.size:=⟨HB1.out.lt⟩
       have x0:=HB1.out.cellG 0 _ rfl
       cases c5:(x.Apid != 15)
       ·have HS5:=lH (show X4 r.size r L=pkts x5.Rest by rw[← HST.out,if_pos (by simpa using c5)])
        clear HST
        go_wp2_with (fail)
        go_roundw
        case rel=>exact⟨r,n,L,sa,sc,rfl,by omega,hL,HS5,HX1.out.to ii,HR1.out.to ii,HO1.out.to ii,b7.of⟩
        case measure=>rw[as1 (HX1.out.cell 3),as1 (HU.out.cell 3)];omega
       ·have HS5:=lH (show X4 r.size r (L++[x])=pkts x5.Rest by rw[← HST.out,if_neg (by simpa using c5)])
        clear HST
        go_wp2_with (first|(refine lA rfl _ (.tmp 7) rfl (bx) 0 kr [I x.Apid,I x.Seq,.string x.Data] HB1 Tryz.underlying117 ?_)|(at_builtin;refine ac6 (enc:=M6) (w0:=w) (z:=.agg #[I 0,I 0,.string ⟨#[]⟩]) (size:=3) (bytes:=32) (n:=n) x rfl (.tmp 82) (.tmp 84) rfl Tryz.underlying112 kr rfl de de rfl rfl hL (HO1.out.to ii) bk rfl (aC4 _) om (Nat.le_trans (show w.heap.size+3≤z1.w.heap.size by have:=iR1.out;omega) (ii:b8 z1.w _).out.size) ii om ?_;intro sa2 sc2 x2 hown2 hgr2 hblk2;have HO2:=lH hown2;have HU2:=lH (aG0 (HX1.out.to (ii:b8 z1.w _)) hgr2 (fun k hk=>by have:=(HO1.out.blk k hk).1;omega));have HR2:=lH (aG0 (HR1.out.to (ii:b8 z1.w _)) hgr2 (fun k hk=>by have:=(HO1.out.blk k hk).1;omega));have HB2:=lH (aG0 (HB1.out.to (ii:b8 z1.w _)) hgr2 HNE.out);have HN2:=lH (show ∀ k,E9 sa2=some k→k≠bx from fun k hk=>hblk2.elim (fun e=>HNE.out k (e▸hk)) (fun e ee=>by rw[e]at hk;cases hk;exact absurd ee (Nat.ne_of_gt (Nat.lt_of_lt_of_le iX1.out (ii:b8 z1.w _).out.size))));clear hown2 hgr2 hblk2))
        go_roundw
        case rel=>exact⟨r,(n+1),(L++[x]),sa2,sc2,rfl,by omega,by simp[hL],HS5,HU2.out.to ii,HR2.out.to ii,HO2.out.to ii,b7.of⟩
        case measure=>rw[as1 (HU2.out.cell 3),as1 (HU.out.cell 3)];omega
 ·have HK:=lH (show I2 u f=(u,[])by rw[I2,if_neg (by rintro⟨h1,h2,h3⟩;simp_all)])
  go_wp2_with (first|(refine lA rfl _ (.tmp 2) rfl (w.heap.size) 0 kr [I u.Channel,I u.Next,.bool u.Synced,.string u.Rest,I u.Lost] HU0 ap1 ?_)|(refine lA rfl _ (.tmp 3) rfl (w.heap.size+1) 0 kr [I f.Channel,I f.Count,I f.First,.string f.Data] HF0 Tryz.underlying107 ?_)|(go_at_call 111;refine gm (M5 (x:=u) om) ?_;intro y1;rw[a1])|(go_at_call 110;refine gm (au3 (x:=f) hzf) ?_;intro y2;rw[a2])|(refine sB rfl _ _ (.tmp 26) rfl (w.heap.size+2) 0 kr [I u.Channel,I u.Next,.bool u.Synced,.string u.Rest,I u.Lost] HR0 w om ?_;intro z9 HX9 KX9))
  refine bodyPost_ret (v:=.tuple #[.agg #[I u.Channel,I u.Next,.bool u.Synced,.string u.Rest,I u.Lost],.slice (some ⟨w.heap.size+3,0,none⟩) 0 0]) (A0 (P:=Tryz.prog) (u:=.slice (some ⟨w.heap.size+3,0,none⟩) 0 0) rfl rfl HX9.out _ ap1 rfl kr rfl) rfl ⟨some ⟨w.heap.size+3,0,none⟩,0,by rw[HK.out];rfl,by rw[HK.out];exact(((OE.out.to (ii:b8 W2 _)).same fun j hj _ hl=>KX9.out.block j (by cases hj;omega) hl).mono om).to ii,b7.of⟩
