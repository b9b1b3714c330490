/- What stands in the box of a mission that is being made. No condition. -/
import Derived.Test.YtbaffippdifbpaaGreatMM46
import Derived.Test.YtbaffippdifbpaaGreatMStab3
namespace Go.Proofs.YtbaffippdifbpaaGreat
set_option linter.unusedVariables false
open Go.ChangeShapes Go.WideShapes Go.ChangeAt Go.RowKit
structure NMs where
 w5:Int:=0
 nx:Int:=0
 ck:Int:=0
 room:Int:=0
 a0:Option Addr:=none
 n0:Nat:=0
 c0:Nat:=0
 a7:Option Addr:=none
 n7:Nat:=0
 c7:Nat:=0
 a8:Option Addr:=none
 n8:Nat:=0
 c8:Nat:=0
 a9:Option Addr:=none
 n9:Nat:=0
 c9:Nat:=0
 a10:Option Addr:=none
 n10:Nat:=0
 c10:Nat:=0
 a17:Option Addr:=none
 n17:Nat:=0
 c17:Nat:=0
 a18:Option Addr:=none
 n18:Nat:=0
 c18:Nat:=0
abbrev nmC(light:Int)(d:TDrift)(o:TOrbit)(up down:TChannel)(S:NMs):List Value:=[.int .i64 0,.int .i64 light,.int .i64 d.Rate,.int .i64 d.Offset,.int .i64 o.Period,.int .i64 o.Start,.int .i64 o.Length,.slice S.a0 S.n0 S.c0,.int .i64 up.Seed,.int .i64 up.Burst,.int .i64 up.Loss,.int .i64 down.Seed,.int .i64 down.Burst,.int .i64 down.Loss,.slice none 0 0,.slice none 0 0,.slice none 0 0,.int .i64 0,.int .i64 S.w5,.slice none 0 0,.int .i64 0,.int .i64 0,.bool false,.bool false,.int .i64 0,.int .i64 S.nx,.bool false,.string ⟨#[]⟩,.int .i64 0,.slice none 0 0,.slice none 0 0,.slice S.a7 S.n7 S.c7,.slice S.a8 S.n8 S.c8,.int .i64 0,.bool false,.bool false,.int .i64 0,.int .i64 S.ck,.slice S.a9 S.n9 S.c9,.bool false,.slice S.a10 S.n10 S.c10,.slice none 0 0,.slice none 0 0,.int .i64 S.room,.slice none 0 0,.slice none 0 0,.int .i64 0,.int .i64 0,.slice none 0 0,.int .i64 0,.int .i64 0,.string ⟨#[]⟩,.slice none 0 0,.int .i64 0,.slice S.a17 S.n17 S.c17,.slice S.a18 S.n18 S.c18,.int .i64 0,.slice none 0 0,.slice none 0 0,.slice none 0 0,.int .i64 0]
abbrev nmZ:List Value:=[.int .i64 0,.int .i64 0,.int .i64 0,.int .i64 0,.int .i64 0,.int .i64 0,.int .i64 0,.slice none 0 0,.int .i64 0,.int .i64 0,.int .i64 0,.int .i64 0,.int .i64 0,.int .i64 0,.slice none 0 0,.slice none 0 0,.slice none 0 0,.int .i64 0,.int .i64 0,.slice none 0 0,.int .i64 0,.int .i64 0,.bool false,.bool false,.int .i64 0,.int .i64 0,.bool false,.string ⟨#[]⟩,.int .i64 0,.slice none 0 0,.slice none 0 0,.slice none 0 0,.slice none 0 0,.int .i64 0,.bool false,.bool false,.int .i64 0,.int .i64 0,.slice none 0 0,.bool false,.slice none 0 0,.slice none 0 0,.slice none 0 0,.int .i64 0,.slice none 0 0,.slice none 0 0,.int .i64 0,.int .i64 0,.slice none 0 0,.int .i64 0,.int .i64 0,.string ⟨#[]⟩,.slice none 0 0,.int .i64 0,.slice none 0 0,.slice none 0 0,.int .i64 0,.slice none 0 0,.slice none 0 0,.slice none 0 0,.int .i64 0]
theorem own_step{α:Type}{enc:α→List Value}{T T' size B:Nat}{w0 W w':World}{a:Option Addr}{c b:Nat}{l:List α}{cs:List Value}(h:Own enc T size B w0 a c l)(hb:Held w0 b cs T')(hT:T≠T')(hg:W.grownBy w' (some b))[g:Grows w0 W]:Own enc T size B w' a c l :=
 (h.to g).at (hb.to g) hT hg
def Wr(T:Nat)(w w':World):Prop:=∃ row,w.grownBy w' row∧∀ b,row=some b→∃ D,w.heap[b]?=some (.cells D T (0,0))
theorem Wr.box{T b:Nat}{w w':World}{cs:List Value}(h:Held w b cs T)(g:w.grownBy w' (some b)):Wr T w w':=⟨_,g,fun _ e=>by cases e;exact⟨_,h⟩⟩
theorem Wr.sl{α:Type}{enc:α→List Value}{T size B n c2:Nat}{w w':World}{a:Option Addr}{c:Nat}{l:List α}(h:Own enc T size B w a c l)(g:w.grownBy w' (Value.ownBlock (.slice a n c2))):Wr T w w':=⟨_,g,fun b e=>h.tyAt b (by rw[← ownBlock_eq a n c2];exact e)⟩
theorem Own.wr{α:Type}{enc:α→List Value}{T T' size B:Nat}{w w':World}{a:Option Addr}{c:Nat}{l:List α}(h:Own enc T size B w a c l)(g:Wr T' w w')(hT:T≠T'):Own enc T size B w' a c l:=by
 obtain⟨row,g1,g2⟩:=g
 refine h.same fun k hk _ h2=>g1.block k h2 fun e=>?_
 obtain⟨D,hD⟩:=h.tyAt k hk
 obtain⟨D',hD'⟩:=g2 k e.symm
 rw[hD]at hD'
 simp only[Option.some.injEq,Obj.cells.injEq]at hD'
 exact hT hD'.2.1
theorem Held.wr{T T' b:Nat}{w w':World}{cs:List Value}(h:Held w b cs T)(g:Wr T' w w')(hT:T≠T'):Held w' b cs T:=by
 obtain⟨row,g1,g2⟩:=g
 have h':w.heap[b]?=some (.cells cs.toArray T (0,0)):=h
 unfold Held
 rw[g1.block b h.lt (fun e=>by
  obtain⟨D',hD'⟩:=g2 b e.symm
  rw[h']at hD'
  simp only[Option.some.injEq,Obj.cells.injEq]at hD'
  exact hT hD'.2.1)]
 exact h
theorem OwnN.wr{α β:Type}[N:Nest α β][F:Flat β]{B T':Nat}{χ:Nat→Col}{o:Nat}{w w':World}{a:Option Addr}{c:Nat}{rows:List (NRow α)}(h:OwnN B χ o w a c rows)(g:Wr T' w w')(h1:N.ty≠T')(h2:F.ty≠T'):OwnN B χ o w' a c rows :=
 ⟨h.own.wr g h1,h.col,fun k r hr=>⟨(h.each k r hr).1,(h.each k r hr).2.own.wr g h2,(h.each k r hr).2.col,(h.each k r hr).2.good⟩⟩
theorem held_step{T T2 c b:Nat}{w0 W w':World}{cs cs2:List Value}(h:Held w0 c cs T)(hb:Held w0 b cs2 T2)(hT:T≠T2)(hg:W.grownBy w' (some b))[g:Grows w0 W]:Held w' c cs T:=(h.to g).wr (Wr.box (hb.to g) hg) hT
theorem grows_new{b:Nat}{w W2:World}{o:Obj}{z:Later W2}(h:But b (w.alloc o) z.w)(hb:b=w.heap.size)(g:Grows W2 w):Grows w z.w :=
 ⟨⟨z.h.os.trans g.out.os.symm,z.h.tape.trans g.out.tape.symm,z.h.output.trans g.out.output.symm,Nat.le_trans (by simp) h.size,fun k hk=>(h.block k (by omega) (by simp;omega)).trans (Below.heap_alloc _ _ _ hk)⟩⟩
theorem grows_apE{w w':World}{o:Obj}{row:Option Nat}(h:(w.alloc o).grownBy w' row)(hr:row=some w.heap.size):Grows w w':=by
 subst hr
 exact⟨⟨h.os,h.tape,h.output,Nat.le_trans (by simp) h.size,fun k hk=>(h.block k (by simp;omega) (by simp;omega)).trans (Below.heap_alloc _ _ _ hk)⟩⟩
structure NF(B U bm:Nat)(w:World)(pl:List Slot)(fs:List ByteArray)(L:List TLimit)(cs:List Value)(S:NMs)(χ1 χ2:Nat→Col)(rows:List (NRow TFileIn))(rows2:List (NRow TFileOut)):Prop where
 box:Held w bm cs 62
 pl:Own encSlot 205 2 B w S.a0 S.c0 pl
 to:Own encBoo 4 1 B w S.a8 S.c8 (List.replicate 8 false)
 fs:Own encStr 9 1 B w S.a17 S.c17 fs
 pa:Own encInt 3 1 B w S.a9 S.c9 (List.replicate 8 0)
 la:Own encTLimit 149 3 B w S.a10 S.c10 L
 ins:OwnN U χ1 0 w S.a7 S.c7 rows
 outs:OwnN U χ2 0 w S.a18 S.c18 rows2
theorem NF.grow{B U bm:Nat}{w w':World}{pl:List Slot}{fs:List ByteArray}{L:List TLimit}{cs:List Value}{S:NMs}{χ1 χ2:Nat→Col}{rows:List (NRow TFileIn)}{rows2:List (NRow TFileOut)}(h:NF B U bm w pl fs L cs S χ1 χ2 rows rows2)(g:Grows w w'):NF B U bm w' pl fs L cs S χ1 χ2 rows rows2 :=
 ⟨h.box.to g,h.pl.to g,h.to.to g,h.fs.to g,h.pa.to g,h.la.to g,h.ins.to g,h.outs.to g⟩
theorem NF.put{B U bm:Nat}{w w':World}{pl:List Slot}{fs:List ByteArray}{L:List TLimit}{cs cs2:List Value}{S:NMs}{χ1 χ2:Nat→Col}{rows:List (NRow TFileIn)}{rows2:List (NRow TFileOut)}(h:NF B U bm w pl fs L cs S χ1 χ2 rows rows2)(g:w.grownBy w' (some bm))(h2:Held w' bm cs2 62):NF B U bm w' pl fs L cs2 S χ1 χ2 rows rows2 :=
 have g1:=Wr.box h.box g
 ⟨h2,h.pl.wr g1 (by decide),h.to.wr g1 (by decide),h.fs.wr g1 (by decide),h.pa.wr g1 (by decide),h.la.wr g1 (by decide),h.ins.wr g1 (by decide) (by decide),h.outs.wr g1 (by decide) (by decide)⟩
theorem NF.addIn{B U bm k:Nat}{w W w':World}{pl:List Slot}{fs:List ByteArray}{L:List TLimit}{cs:List Value}{S:NMs}{χ1 χ2:Nat→Col}{rows:List (NRow TFileIn)}{rows2:List (NRow TFileOut)}{a1 a':Option Addr}{c1 c' c2 n2:Nat}(h:NF B U bm w pl fs L cs S χ1 χ2 rows rows2)(g:Grows w W)(hU:U≤w.heap.size)(hk:(k:Int)≤8)
  (hi:Own encStr 9 1 w.heap.size W a1 c1 (List.replicate 25 ⟨#[]⟩)) (ho:Own (encN (α:=TFileIn)) 140 4 U w' a' c' (rows++[⟨fileIn0 k,a1,c1⟩])) (hg:W.grownBy w' (Value.ownBlock (.slice S.a7 n2 c2))) (hb:blkOf a'=blkOf S.a7∨blkOf a'=some W.heap.size) :
  ∃ χ,NF B U bm w' pl fs L cs { S with a7:=a',c7:=c' } χ χ2 (rows++[⟨fileIn0 k,a1,c1⟩]) rows2 :=
 have h1:=h.grow g
 have g1:Wr 140 W w':=Wr.sl (h1.ins.own) hg
 ⟨_,h1.box.wr g1 (by decide),h1.pl.wr g1 (by decide),h1.to.wr g1 (by decide),h1.fs.wr g1 (by decide),h1.pa.wr g1 (by decide),h1.la.wr g1 (by decide),
  OwnN.grow (W1:=w) (W3:=W) h.ins (Grows.same _) hU (OwnC.of hi (fun x hx=>by rw[List.eq_of_mem_replicate hx];exact Nat.zero_le _) (0,0)) g ⟨by unfold i64 fileIn0;simp only;omega,by unfold i64 fileIn0;simp only;omega,by unfold i64 fileIn0;simp only;omega,trivial⟩ (Grows.same _) ho (by rw[ownBlock_eq]at hg;exact hg) hb,
  h1.outs.wr g1 (by decide) (by decide)⟩
theorem NF.addOut{B U bm k:Nat}{w w':World}{pl:List Slot}{fs:List ByteArray}{L:List TLimit}{cs:List Value}{S:NMs}{χ1 χ2:Nat→Col}{rows:List (NRow TFileIn)}{rows2:List (NRow TFileOut)}{a':Option Addr}{c' c2 n2:Nat}{s:ByteArray}(h:NF B U bm w pl fs L cs S χ1 χ2 rows rows2)(hU:U≤w.heap.size)(hk:(k:Int)≤8)(hs:s.size≤9223372036854775807)
  (ho:Own (encN (α:=TFileOut)) 143 4 U w' a' c' (rows2++[⟨fileOut0 k s,none,0⟩])) (hg:w.grownBy w' (Value.ownBlock (.slice S.a18 n2 c2))) (hb:blkOf a'=blkOf S.a18∨blkOf a'=some w.heap.size) :
  ∃ χ,NF B U bm w' pl fs L cs { S with a18:=a',c18:=c' } χ1 χ rows (rows2++[⟨fileOut0 k s,none,0⟩]) :=
 have g1:Wr 143 w w':=Wr.sl (h.outs.own) hg
 ⟨_,h.box.wr g1 (by decide),h.pl.wr g1 (by decide),h.to.wr g1 (by decide),h.fs.wr g1 (by decide),h.pa.wr g1 (by decide),h.la.wr g1 (by decide),h.ins.wr g1 (by decide) (by decide),
  OwnN.grow (W1:=w) (W2:=w) (W3:=w) (χ2:=fun _=>(0,0)) (i0:=(0,0)) h.outs (Grows.same _) hU OwnC.nil (Grows.same _) ⟨by unfold i64 fileOut0;simp only;omega,hs,trivial⟩ (Grows.same _) ho (by rw[ownBlock_eq]at hg;exact hg) hb⟩
theorem take_snoc{α:Type}{l r:List α}{k:Nat}{s:α}(h:l.drop k=s::r):l.take (k+1)=l.take k++[s]:=by
 have h0:=congrArg (fun m=>m[0]?) h
 simp only[List.getElem?_drop,Nat.add_zero,List.getElem?_cons_zero]at h0
 rw[List.take_add_one,h0];rfl
theorem ins_next{fs r:List ByteArray}{k:Nat}{s:ByteArray}{a:Option Addr}{c:Nat}{rows:List (NRow TFileIn)}(h:rows.map (·.x)=insOf 0 (fs.take k))(hd:fs.drop k=s::r)(hk:k<fs.length):(rows++[(⟨fileIn0 k,a,c⟩:NRow TFileIn)]).map (·.x)=insOf 0 (fs.take (k+1)):=by
 rw[take_snoc hd,insOf_snoc,List.map_append,h,List.length_take,Nat.min_eq_left (Nat.le_of_lt hk),Nat.zero_add];rfl
theorem outs_next{fs r:List ByteArray}{k:Nat}{s:ByteArray}{rows:List (NRow TFileOut)}(h:rows.map (·.x)=outsOf 0 (fs.take k))(hd:fs.drop k=s::r)(hk:k<fs.length):(rows++[(⟨fileOut0 k s,none,0⟩:NRow TFileOut)]).map (·.x)=outsOf 0 (fs.take (k+1)):=by
 rw[take_snoc hd,outsOf_snoc,List.map_append,h,List.length_take,Nat.min_eq_left (Nat.le_of_lt hk),Nat.zero_add];rfl
theorem newM_O{B:Nat}{χ:Nat→Col}{w:World}{light:Int}{d:TDrift}{o:TOrbit}{pl:List Slot}{up down:TChannel}{room:Int}{L:List TLimit}{ln:Nat}{fs:List ByteArray}{a0 a7 a8 a9 a10 a17 a18:Option Addr}{c0 c7 c8 c9 c10 c17 c18:Nat}(hf:fs.length=8)(hl:L.length=ln)
  (h:TMissionO B χ 0 w ⟨a0,c0,none,0,none,0,none,0,none,0,none,0,none,0,a7,c7,a8,c8,a9,c9,a10,c10,none,0,none,0,none,0,none,0,none,0,none,0,a17,c17,a18,c18,none,0,none,0,none,0⟩ (newM light d o pl up down room L fs)) :
  EncO.O B χ 0 w (nmC light d o up down { w5:=5,nx:=-1,ck:=boardTime d.Rate d.Offset 0,room:=room,a0:=a0,n0:=pl.length,c0:=c0,a7:=a7,n7:=8,c7:=c7,a8:=a8,n8:=8,c8:=c8,a9:=a9,n9:=8,c9:=c9,a10:=a10,n10:=ln,c10:=c10,a17:=a17,n17:=8,c17:=c17,a18:=a18,n18:=8,c18:=c18 }) (newM light d o pl up down room L fs):=by
 have e1:(insOf 0 fs).length=8:=by rw[insOf_len,hf]
 have e2:(outsOf 0 fs).length=8:=by rw[outsOf_len,hf]
 refine⟨_,?_,h⟩
 simp only[cMission,newM,newBoard,e1,e2,hf,hl,List.length_replicate,List.length_nil]
def nmOf(light:Int)(d:TDrift)(o:TOrbit)(up down:TChannel):List Value→Value
 | [.slice a n c]=>.agg (nmC light d o up down { a0:=a,n0:=n,c0:=c }).toArray
 | _=>undef
end Go.Proofs.YtbaffippdifbpaaGreat
