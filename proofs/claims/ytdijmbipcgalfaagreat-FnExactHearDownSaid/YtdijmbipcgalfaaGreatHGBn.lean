/- A box with a mission: a row of a slice of files is written anew. -/
import Derived.Test.YtdijmbipcgalfaaGreatHM43
import Derived.Test.YtdijmbipcgalfaaGreatHM29
namespace Go.Proofs.YtdijmbipcgalfaaGreat
set_option linter.unusedVariables false
open Go.ChangeShapes Go.WideShapes Go.ChangeAt Go.RowKit
variable {b:Nat}{w:World}
structure FN(α β:Type){γ:Type}[A:R4 α][N:ap4 β γ][D7 γ] where
 off:Nat
 col:Nat
 get:α→List β
 set:α→List β→α
 own:∀ {B χ w vs x},A.O B χ 0 w vs x→∃ (a:Option Addr) (c:Nat) (rows:List (N2 β)),vs[off]?=some (.slice a (get x).length c)∧rows.map (·.x)=get x∧M3 B χ col w a c rows
 put:∀ {B χ w w2 vs x a c} {rows:List (N2 β)} {l:List β},A.O B χ 0 w vs x→Fr B χ (fun i=>i.1=col) w w2→vs[off]?=some (.slice a (get x).length c)→rows.map (·.x)=l→l.length=(get x).length→M3 B χ col w2 a c rows→A.O B χ 0 w2 vs (set x l)
 clt:col<A.n
theorem br2{X:Nat→Prop}{B:Nat}{m:f7}(h:GB X B b w m):∀ (W:World) [b8 w W],W.cell? ⟨b,0,none⟩=some (.int .i64 m.Time):=by
 obtain⟨vs,hH,-,-,hR,-⟩:=h.vs
 obtain⟨A,rfl,-⟩:=hR
 exact hH.cellG 0 _ rfl
theorem al3{X:Nat→Prop}{B:Nat}{m:f7}(h:GB X B b w m):∃ (vs:List Value) (A:I1),j5 w b vs 90∧vs=[.int .i64 m.Time,.int .i64 m.Light,.int .i64 m.Drift.Rate,.int .i64 m.Drift.Offset,.int .i64 m.Orbit.Period,.int .i64 m.Orbit.Start,.int .i64 m.Orbit.Length,.slice A.a0 m.Plan.length A.c0,.int .i64 m.Up.Seed,.int .i64 m.Up.Burst,.int .i64 m.Up.Loss,.int .i64 m.Down.Seed,.int .i64 m.Down.Burst,.int .i64 m.Down.Loss,.slice A.a1 m.Ups.length A.c1,.slice A.a2 m.Downs.length A.c2,.slice A.a3 m.Ground.Offers.length A.c3,.int .i64 m.Ground.Sender.Next,.int .i64 m.Ground.Sender.Window,.slice A.a4 m.Ground.Sender.Waiting.length A.c4,.int .i64 m.Ground.Sender.Done,.int .i64 m.Ground.Notice.Expect,.bool m.Ground.Notice.Locked,.bool m.Ground.Notice.Again,.int .i64 m.Ground.Unpacker.Channel,.int .i64 m.Ground.Unpacker.Next,.bool m.Ground.Unpacker.Synced,.string m.Ground.Unpacker.Rest,.int .i64 m.Ground.Unpacker.Lost,.slice A.a5 m.Ground.Pairs.length A.c5,.slice A.a6 m.Ground.Records.length A.c6,.slice A.a7 m.Ground.Files.length A.c7,.slice A.a8 m.Ground.Told.length A.c8,.int .i64 m.Space.Receiver.Expect,.bool m.Space.Receiver.Locked,.bool m.Space.Receiver.Again,.int .i64 m.Space.Receiver.Taken,.int .i64 m.Space.Board.Clock,.slice A.a9 m.Space.Board.Params.length A.c9,.bool m.Space.Board.Safe,.slice A.a10 m.Space.Board.Limits.length A.c10,.slice A.a11 m.Space.Board.Orders.length A.c11,.slice A.a12 m.Space.Board.Done.length A.c12,.int .i64 m.Space.Board.Recorder.Room,.slice A.a13 m.Space.Board.Recorder.Records.length A.c13,.slice A.a14 m.Space.Board.Recorder.Dropped.length A.c14,.int .i64 m.Space.Board.Made,.int .i64 m.Space.Board.Taken,.slice A.a15 m.Space.Board.Asked.length A.c15,.int .i64 m.Space.Packer.Channel,.int .i64 m.Space.Packer.Count,.string m.Space.Packer.Rest,.slice A.a16 m.Space.Packer.Starts.length A.c16,.int .i64 m.Space.Seq,.slice A.a17 m.Space.Files.length A.c17,.slice A.a18 m.Space.Outs.length A.c18,.int .i64 m.Space.Begun,.slice A.a19 m.Space.Sent.length A.c19,.slice A.a20 m.Offered.length A.c20,.slice A.a21 m.Took.length A.c21,.int .i64 m.Bad]∧ad7 B w A m:=by
 obtain⟨vs,hH,-,-,⟨A,hv,F⟩,-⟩:=h.vs
 exact⟨vs,A,hH,hv,F⟩
theorem GB.ownN{α β γ:Type}[E:R4 α][N:ap4 β γ][E2:D7 γ]{X:Nat→Prop}{B b:Nat}{w:World}{x:α}(F:FN α β)(h:GB X B b w x):∃ a c,(∀ (W:World) [b8 w W],W.cell? ⟨b,F.off,none⟩=some (.slice a (F.get x).length c))∧(0<(F.get x).length→∃ g,a=some ⟨g,0,none⟩):=by
 obtain⟨χ,vs,h1,h2,-⟩:=h
 obtain⟨a,c,rows,hv,hx,k⟩:=F.own h2
 refine⟨a,c,h1.cellG F.off _ hv,fun h0=>?_⟩
 obtain⟨-,-,⟨hv1,hn1⟩|⟨g,cap,cur,hv1,-⟩⟩:=k.own
 ·rw[← hx,List.length_map]at h0;omega
 ·simp only[Value.slice.injEq]at hv1;exact⟨g,hv1.1⟩
theorem bk9{w':World}(h:w'.heap[b]?=w.heap[b]?)(o:Nat):w'.cell? ⟨b,o,none⟩=w.cell? ⟨b,o,none⟩:=by
 simp only[World.cell?,h]
section
variable {P:Program} {ops:Array Oper} {rest:List Oper} {op:Oper} {act:Act} {u w w0:World} {Q:Exit→Act→World→Prop} {X:Nat→Prop} {B b:Nat} {α β γ:Type} [E:R4 α] [N:ap4 β γ] [E2:D7 γ] {x:α}
theorem bD9{q j c:Nat}{y:β}{ra:Option Addr}{rc:Nat}{i0:Col}{χ2:Nat→Col}(F:FN α β)(hgd:op.guard=none)(ty:TypeId)(p v:Operand)(ho:op.op=.store ty p v)(h:GB X B b u x)(g:b8 u w)(hc:u.cell? ⟨b,F.off,none⟩=some (.slice (some ⟨q,0,none⟩) (F.get x).length c))
  (hj:j<(F.get x).length) (k:B6 u.heap.size χ2 i0 w ra rc (N.inner y)) (hy:N.good y) (hs4:N.size=4) {o4:Nat} (hx:act.eval p=.pointer (some ⟨q,o4,none⟩)) (ho4:o4=j*4) {v0 v1 v2 v3:Value} (hr:N.cells y ra rc=[v0,v1,v2,v3]) (hv:(act.eval v).cells.toList=[v0,v1,v2,v3]) (hi:(P.info? ty).map (·.size)=some 4)
  (gw:b8 w0 w) (hb:w0.heap.size≤B) (K:∀ z:b7 w0,GB X B b z.w (F.set x ((F.get x).set j y))→b≠q→(∀ k,k<w.heap.size→k≠q→z.w.heap[k]?=w.heap[k]?)→wpList P ops Q rest (act.put op.dst undef) z.w):wpList P ops Q (op::rest) act w:=by
 subst ho4
 have hlu:=h.lt
 obtain⟨χ,vs,h1,h2,h3,h4,h5,h6⟩:=h
 obtain⟨a1,c1,rows,hv1,hxr,hN⟩:=F.own h2
 rw[h1.cell,hv1]at hc
 simp only[Option.some.injEq,Value.slice.injEq,true_and]at hc
 obtain⟨rfl,rfl⟩:=hc
 have hlen:rows.length=(F.get x).length:=by rw[← hxr,List.length_map]
 have hq:=hN.own.blk q rfl
 have hone:[v0,v1,v2,v3].all (·.oneCell')=true:=List.all_eq_true.2 fun u hu=>N.one y ra rc u (by rw[hr];exact hu)
 have hO4:Own (aa0 (α:=β)) N.ty 4 B w (some ⟨q,0,none⟩) c1 rows:=hs4▸(hN.to g).own
 have hc1:=F.clt
 have hn1:=E.nle
 refine wpList_step fun K' hK=>aQ5 (by simp[Region.wanted,hgd]) ty p v ho j hx hO4 (hlen▸hj) ⟨y,ra,rc⟩ hr hv hi hone gw hb fun z hown hg=>hK _ _ ?_
 have hsu:=g.out.size
 have hsz:=hg.size
 have hown:Own (aa0 (α:=β)) N.ty N.size B z.w (some ⟨q,0,none⟩) c1 (rows.set j ⟨y,ra,rc⟩):=by rw[hs4];exact hown
 have hcq:χ q=(F.col,0):=hN.col q rfl
 let χ1:Nat→Col:=I7 u.heap.size χ χ2 (fun _=>(F.col,j+1))
 have hc1q:χ1 q=(F.col,0):=by show I7 _ _ _ _ q=_;rw[I7,if_pos hq.2];exact hcq
 have hfr:Fr B χ1 (·=(F.col,0)) w z.w:=⟨hg.os,hg.tape,hg.output,hg.size,fun k h2 h3=>hg.block k h2 (fun e=>h3 (by cases e;exact⟨hq.1,hc1q⟩))⟩
 have hNz:M3 B χ1 F.col z.w (some ⟨q,0,none⟩) c1 (rows.set j ⟨y,ra,rc⟩):=by
  refine⟨hown,fun k hk=>by cases hk;exact hc1q,fun i r hr=>?_⟩
  by_cases hij:i=j
  ·subst hij
   rw[List.getElem?_set_self (by rw[hlen];exact hj)]at hr
   cases hr
   exact⟨hy,((k.new (χ:=χ) (f:=fun _=>(F.col,i+1)) nl).mono om).fr hfr si⟩
  ·rw[List.getElem?_set_ne (fun e=>hij e.symm)]at hr
   obtain⟨p1,p2⟩:=hN.each i r hr
   exact⟨p1,(B6.to (B6.old (χ2:=χ2) (f:=fun _=>(F.col,j+1)) p2 nl) g).fr hfr si⟩
 have hO:E.O B χ1 0 z.w vs (F.set x ((F.get x).set j y)) :=
  F.put (E.map (E.map h2 (.old (χ2:=χ2) (f:=fun _=>(F.col,j+1)) nl)) (.to g)) (hfr.wide (fun i hi=>by rw[hi])) hv1 (by rw[List.map_set,hxr]) (List.length_set ..) hNz
 have hX:∀ k,1000≤(χ k).1→k<u.heap.size→z.w.heap[k]?=w.heap[k]?:=fun k hk hl=>hg.block k om (fun e=>by cases e;rw[hcq]at hk;simp only at hk;omega)
 refine K z ⟨I7 z.w.heap.size χ1 (fun _=>(0,0)) (fun _=>(1000,0)),vs,?_,E.map hO (.old nl),?_,aC6 nl,h5,fun k hk=>⟨?_,(h6 k hk).2.1,by have:=(h6 k hk).2.2;omega⟩⟩ (fun e=>by subst e;rw[hcq]at h3;simp only at h3;omega) (fun k hk hn=>hg.block k hk (fun e=>hn (by cases e;rfl)))
 ·have h1':=h1.to g
  unfold j5 at h1' ⊢
  rw[hX b h3 hlu];exact h1'
 ·rw[I7,if_pos om]
  show 1000≤(I7 _ _ _ _ b).1
  rw[I7,if_pos hlu];exact h3
 ·have:=(h6 k hk).2.2
  rw[I7,if_pos om]
  show 1000≤(I7 _ _ _ _ k).1
  rw[I7,if_pos this];exact(h6 k hk).1
end
def ao3:FN f7 A8 where
 off:=31
 col:=7
 get:=(·.Ground.Files)
 set:=fun x l=>{ x with Ground.Files:=l }
 own:=by rintro _ _ _ _ _ ⟨A,rfl,h⟩;obtain⟨rows,h1,h2⟩:=h.o7;exact⟨_,_,rows,rfl,h1,h2⟩
 put:=by
  rintro _ _ _ _ _ _ a c _ _ ⟨A,rfl,h⟩ f hv hm hl k
  have hv:some (Value.slice A.a7 _ A.c7)=some (Value.slice a _ c):=hv
  simp only[Option.some.injEq,Value.slice.injEq,true_and]at hv
  obtain⟨rfl,rfl⟩:=hv
  refine⟨A,?_,h.o0.fr f si,h.o1.fr f si,h.o2.fr f si,h.o3.fr f si,h.o4.fr f si,h.o5.fr f si,h.o6.fr f si,⟨_,hm,k⟩,h.o8.fr f si,h.o9.fr f si,h.o10.fr f si,h.o11.fr f si,h.o12.fr f si,h.o13.fr f si,h.o14.fr f si,h.o15.fr f si,h.o16.fr f si,h.o17.fr f si,h.o18.elim fun r hr=>⟨r,hr.1,hr.2.fr f si⟩,h.o19.fr f si,h.o20.fr f si,h.o21.fr f si,h.ok⟩
  simp only[s9,D1,hl]
 clt:=by decide
