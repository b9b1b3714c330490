/- Bytes in a block of the call's own; regions that draw their order: an index of a string, operations of two numbers. No condition but on sizes. -/
import Derived.Test.YtdijmbipcgalfaaGreatHM18
import Derived.Test.YtdijmbipcgalfaaGreatHM23
import Derived.Laws.OwnMore
import Derived.Laws.IdiomStrings
namespace Go.Proofs.YtdijmbipcgalfaaGreat
set_option linter.unusedVariables false
open Go.ChangeShapes Go.WideShapes Go.ChangeAt Go.RowKit
variable {b n v x:Int}{k:Nat}
def ar3(w:World)(g:Nat)(L:List Int):Prop :=
 ∃ (C:Array Value) (T:TypeId) (f:Nat × Nat),w.heap[g]?=some (.cells C T f)∧(∀ j,j<C.size→¬ (f.1≤j∧j<f.2))∧C.toList.take L.length=L.map (.int .u8)
theorem ar3.lt{w:World}{g:Nat}{L:List Int}(h:ar3 w g L):g<w.heap.size:=h.elim fun _ h=>h.elim fun _ h=>h.elim fun _ h=>(Array.getElem?_eq_some_iff.1 h.1).1
theorem ar3.at{w:World}{g i:Nat}{L:List Int}(h:ar3 w g L)(hi:i<L.length):w.cell? ⟨g,i,none⟩=some (.int .u8 (L.getD i 0))∧w.frozen? ⟨g,i,none⟩=false:=by
 obtain⟨C,T,f,h1,h2,h3⟩:=h
 have e:C[i]?=some (.int .u8 (L.getD i 0)):=by
  have:=congrArg (fun m=>m[i]?) h3
  simp only[List.getElem?_take,if_pos hi,List.getElem?_map,List.getElem?_eq_getElem hi,Option.map_some,Array.getElem?_toList]at this
  rw[this,List.getD,List.getElem?_eq_getElem hi];rfl
 have hs:i<C.size:=(Array.getElem?_eq_some_iff.1 e).1
 refine⟨by simp[World.cell?,h1,e],?_⟩
 have:=h2 i hs
 simp only[World.frozen?,h1]
 simp only[Bool.and_eq_false_imp,decide_eq_true_eq,decide_eq_false_iff_not]
 exact fun a b=>this ⟨a,b⟩
theorem ar3.to{w W:World}{g:Nat}{L:List Int}(h:ar3 w g L)(k:b8 w W):ar3 W g L:=by
 have hl:=h.lt
 obtain⟨C,T,f,h1,h2,h3⟩:=h
 exact⟨C,T,f,by rw[k.out.block g hl];exact h1,h2,h3⟩
theorem ar3.set{w:World}{g i:Nat}{L:List Int}(h:ar3 w g L)(hi:i<L.length)(v:Int):ar3 (w.setCell ⟨g,i,none⟩ (.int .u8 v)) g (L.set i v):=by
 obtain⟨C,T,f,h1,h2,h3⟩:=h
 refine⟨C.setIfInBounds i (.int .u8 v),T,f,?_,fun j hj=>h2 j (by simpa using hj),?_⟩
 ·simp[World.setCell,Array.getElem?_modify,h1]
 ·rw[List.length_set,List.map_set,← h3,Array.toList_setIfInBounds,List.take_set]
theorem ar3.str{P:Program}{w:World}{g c n:Nat}{L:List Int}(h:ar3 w g L)(hn:L.length=n){t d e:TypeId}(ht:P.underlying t=some (.slice e))(he:P.underlying e=some (.int .u8))(hd:P.underlying d=some .string) :
  ∀ W':World,[b8 w W']→(convert t d (.slice (some ⟨g,0,none⟩) n c)).run P W'=.ok (.string (strOfNums L)) W':=fun W' k =>
 run_convert_bytes_arg W' t e ht he g 0 n c L hn (fun i hi=>by rw[Nat.zero_add];exact((h.to k).at om).1) d hd
theorem ar3.conv{w:World}{s:ByteArray}{c:Nat}{T:TypeId}:ar3 (w.drew.alloc (.cells (bytesRow s c) T ((bytesRow s c).size,(bytesRow s c).size+1))) w.heap.size (s5 s):=by
 refine⟨bytesRow s c,T,((bytesRow s c).size,(bytesRow s c).size+1),?_,fun j hj k=>by simp only at k;omega,?_⟩
 ·show(w.heap.push _)[w.heap.size]?=_
  simp
 simp[bytesRow,s5]
theorem ar3.made{w:World}{n:Nat}{T:TypeId}{C:Array Value}(hC:C=madeCells #[.int .u8 0] n):ar3 (w.alloc (.cells C T)) w.heap.size (List.replicate n 0):=by
 refine⟨C,T,(0,0),(show(w.heap.push _)[w.heap.size]?=_ by simp),fun j hj k=>by simp only at k;omega,?_⟩
 subst hC
 rw[toList_madeCells_one];simp
theorem aw9(h0:0≤n)(h1:n≤9223372036854775807):IntKind.i64.wrap n=n:=by rw[IntKind.wrap_i64];omega
theorem w64(h0:-9223372036854775808≤n)(h1:n≤9223372036854775807):wrap64 n=n:=by unfold wrap64;omega
theorem bU9(h0:0≤n)(h1:n≤255):IntKind.u8.wrap n=n:=by simp[IntKind.wrap,IntKind.bits,IntKind.signed];omega
theorem bY7(h0:0≤x)(h1:x≤255):bits .or .i64 (x*2 % 256) (bits .and .i64 (x / 128+x / 16+x / 4+x) 1)=bi6 x:=by
 obtain⟨k,rfl⟩:∃ k:Fin 256,x=(k.1:Int):=⟨⟨x.toNat,by omega⟩,by simp;omega⟩
 clear h0 h1
 revert k
 decide +kernel
theorem bY8(h0:0≤x)(h1:x≤255):bits .or .i64 (x*2 % 256) (bits .and .i64 (bits .xor .i64 (bits .xor .i64 (bits .xor .i64 (x / 128) (x / 16)) (x / 4)) x) 1)=bi6 x:=by
 obtain⟨k,rfl⟩:∃ k:Fin 256,x=(k.1:Int):=⟨⟨x.toNat,by omega⟩,by simp;omega⟩
 clear h0 h1
 revert k
 decide +kernel
theorem bR9(h0:0≤n)(h1:n≤255):bits .and .i64 n 1=n % 2:=by
 obtain⟨k,rfl⟩:∃ k:Fin 256,n=(k.1:Int):=⟨⟨n.toNat,by omega⟩,by simp;omega⟩
 clear h0 h1
 revert k
 decide +kernel
theorem bW4(h0:0≤n)(h1:n≤255):bits .and .u8 n 1=n % 2:=by
 obtain⟨k,rfl⟩:∃ k:Fin 256,n=(k.1:Int):=⟨⟨n.toNat,by omega⟩,by simp;omega⟩
 clear h0 h1
 revert k
 decide +kernel
theorem bU4(h0:0≤b)(h1:b≤255)(k:Nat):0≤b / 2 ^ k∧b / 2 ^ k≤255:=by
 have hp:(0:Int)<2 ^ k:=Int.pow_pos de
 exact⟨Int.ediv_nonneg h0 (Int.le_of_lt hp),Int.le_trans (Int.ediv_le_self _ h0) h1⟩
section
variable {P:Program} {b:Int} {k:Nat}
theorem bD3{p:Nat}(h:n=(p:Int))(hb:p≤4000)(ty ty2:TypeId)(w:World):(binOp .quo ty (I n) (I 8)).run P w=.ok (I ((p / 8:Nat):Int)) w:=by
 subst h
 simp only[go_sem]
 simp
 exact aw9 om om
theorem bD4{p:Nat}(h:n=(p:Int))(hb:p≤4000)(ty ty2:TypeId)(w:World):(binOp .rem ty (I n) (I 8)).run P w=.ok (I ((p % 8:Nat):Int)) w:=by
 subst h
 simp only[go_sem]
 simp
 exact Int.tmod_eq_emod_of_nonneg om
theorem bD6(h:k<8)(ty ty2:TypeId)(w:World):(binOp .shr ty (.int .u8 b) (I (k:Int))).run P w=.ok (.int .u8 (b / 2 ^ k)) w:=by
 simp[go_sem]
theorem bD5(h:k<8)(ty ty2:TypeId)(w:World):(binOp .shl ty (.int .u8 b) (I (k:Int))).run P w=.ok (.int .u8 (IntKind.u8.wrap (b*2 ^ k))) w:=by
 simp[go_sem]
theorem bD2(h0:0≤b)(h1:b≤255)(ty ty2:TypeId)(w:World):(binOp .and ty (.int .u8 b) (.int .u8 1)).run P w=.ok (.int .u8 (b % 2)) w:=by
 simp[go_sem,bW4 h0 h1]
theorem bU0{a:Int}(ty ty2:TypeId)(w:World):(binOp .or ty (.int .u8 a) (.int .u8 b)).run P w=.ok (.int .u8 (orU a b)) w:=by
 simp only[go_sem];rfl
end
theorem bu9{P:Program}{t e:Nat}(h1:P.underlying t=some (.slice e))(h2:(P.info? e).map (fun i=>(i.zero,i.size,i.bytes))=some (some (.int .u8 0),1,1)){l c:Nat}(hl:l≤c)(hn:c≤1000000000){a:Int}(ha:a=l)(hb:b=c) :
  ∀ w:World,(Instr.makeSlice t (I a) (I b)).run P w=.ok (.slice (some ⟨w.heap.size,0,none⟩) l c) (w.alloc (.cells (madeCells #[.int .u8 0] c) e)):=fun w=>by
 subst ha hb
 obtain⟨i,hi,h3⟩:=Option.map_eq_some_iff.1 h2
 simp only[Prod.mk.injEq]at h3
 obtain⟨h4,h5,h6⟩:=h3
 have:=run_make (P:=P) w t e i _ h1 hi h4 .i64 .i64 (l:Int) (c:Int) om om (by rw[h6];omega) om
 simp only[Int.toNat_natCast,h5,Nat.mul_one]at this
 exact this
theorem Own.room{W:World}{T c:Nat}(hc:c≤1000000000)(x:b7 (W.alloc (.cells (madeCells #[.int .u8 0] c) T))):Own Y1 T 1 W.heap.size x.w (some ⟨W.heap.size,0,none⟩) c [] :=
 ⟨ar5,rfl,.inr ⟨W.heap.size,c,madeCells #[.int .u8 0] c,rfl,Nat.le_refl _,by
  rw[x.h.block _ si]
  show(W.heap.push _)[W.heap.size]?=_
  simp,by simp,by unfold maxLen;omega,by rw[size_madeCells,Nat.mul_one],by simp⟩⟩
theorem bU1{D:List Int}{F:List Int}(h:D.take k++scr x (D.drop k)=F)(hk:k<D.length):(D.set k (bv6 (D.getD k 0) x)).take (k+1)++scr (bi6 x) ((D.set k (bv6 (D.getD k 0) x)).drop (k+1))=F:=by
 rw[← h,List.drop_eq_getElem_cons hk,scr,List.take_set,List.drop_set_of_lt (Nat.lt_succ_self k),List.getD,List.getElem?_eq_getElem hk,Option.getD_some,List.take_succ_eq_append_getElem hk,List.set_append_right _ _ (by simp;omega)]
 simp[Nat.min_eq_left (Nat.le_of_lt hk)]
theorem bW2{L l:List Int}{F:List Int}(h:L++scr x (l.drop k)=F)(hd:l.drop k=b::l.drop (k+1)):(L++[bv6 b x])++scr (bi6 x) (l.drop (k+1))=F:=by
 rw[← h,hd,scr];simp
section
variable {P:Program} {ops:Array Oper} {b:Act} {w:World} {i:Nat}
theorem aS3{rest:List Oper}{o:Oper}{a:Act}{Q:Exit→Act→World→Prop}(hgd:o.guard=none)(ty:TypeId)(x y:Operand)(ho:o.op=.store ty x y)(g k:Nat)(hx:a.eval x=.pointer (some ⟨g,k,none⟩)){L L2:List Int}(H:ar3 w g L)(hv:a.eval y=.int .u8 v)
  (hi:(P.info? ty).map (·.size)=some 1) (hk:k<L.length) (hL:L.set k v=L2) {w0:World} (gr:b8 w0 w) (hb:w0.heap.size≤g) (h:∀ z:b7 w0,ar3 z.w g L2→wpList P ops Q rest (a.put o.dst undef) z.w):wpList P ops Q (o::rest) a w:=by
 refine wpList_plain hgd fun _ hK=>?_
 have hf:=H.at hk
 have hs:=ac4 (P:=P) (w:=w) (b:=g) (o:=k) (ty:=ty) (v:=.int .u8 v) (us:=[.int .u8 v]) rfl (fun j hj=>by(have hj0:j=0:=by simpa using hj);subst hj0;exact⟨by rw[Nat.add_zero,hf.1];rfl,hf.2⟩) hi (fun u hu=>by simp at hu;subst hu;rfl)
 unfold Oper.wp execOp
 simp only[ho,hx,hv,Instr.storeAt,Instr.sureAddr,Sem.run_bind,Sem.run_pure,Result.andThen_ok,hs]
 exact hK _ _ (h ⟨_,gr.out.setCell hb _⟩ (hL▸H.set hk v))
def bX7(ops:Array Oper)(b:Act)(i:Nat):Option (TypeId × ByteArray × Int) :=
 if Region.wanted (ah4 ops i) (yielded ops b.tmps)then(match (ah4 ops i).op with
  | .index t x y=>(match b.eval x,b.eval y with|.string s,.int .i64 k=>some (t,s,k)|_,_=>none)
  | _=>none)else none
theorem au1{t:TypeId}{s:ByteArray}{Fs:ai2 Gr}{val:Nat→Value}{q:Nat}(he:(U9 Fs q).fix=some fun _=>.int .u8 v)(hk:bX7 ops b i=some (t,s,(k:Int)))(hu:P.underlying t=some .string)(hl:k<s.size)(hv:((s[k]'hl).toNat:Int)=v) :
  U0 P ops (ah4 ops i) b w (fun v w'=>(∃ y:b7 w,w'=y.w)∧ai8 Fs q val v w'):=by
 unfold bX7 at hk
 unfold U0
 split at hk
 case isFalse=>cases hk
 rename_i hw
 rw[if_pos hw]
 split at hk
 case h_2=>cases hk
 rename_i t' x y hop
 split at hk
 case h_2=>cases hk
 rename_i s' k' hx hy
 simp only[Option.some.injEq,Prod.mk.injEq]at hk
 obtain⟨rfl,rfl,rfl⟩:=hk
 unfold execOp
 have hj:(0:Int)≤k∧(k:Int)<s'.size:=⟨by omega,by omega⟩
 simp only[hop,Sem.run_bind,hx,hy,run_index_string (h:=hu),dif_pos hj,Int.toNat_natCast,hv,Result.andThen_ok,Sem.run_pure,aa4]
 refine⟨b7.of,?_⟩
 unfold ai8
 rw[he]
def bW9(ops:Array Oper)(b:Act)(i:Nat):Option (BinOp × IntKind × Int × IntKind × Int) :=
 if Region.wanted (ah4 ops i) (yielded ops b.tmps)then(match (ah4 ops i).op with
  | .binOp o _ x y _=>(match b.eval x,b.eval y with|.int p s,.int q t=>some (o,p,s,q,t)|_,_=>none)
  | _=>none)else none
theorem ak9{o:BinOp}{p q:IntKind}{s t:Int}{v:Value}{Fs:ai2 Gr}{val:Nat→Value}(he:(U9 Fs k).fix=some fun _=>v)(hk:bW9 ops b i=some (o,p,s,q,t))(hr:∀ (ty ty2:TypeId) (w:World),(binOp o ty (.int p s) (.int q t)).run P w=.ok v w) :
  U0 P ops (ah4 ops i) b w (fun v w'=>(∃ y:b7 w,w'=y.w)∧ai8 Fs k val v w'):=by
 unfold bW9 at hk
 unfold U0
 split at hk
 case isFalse=>cases hk
 rename_i hw
 rw[if_pos hw]
 split at hk
 case h_2=>cases hk
 rename_i o' ty x y ty2 hop
 split at hk
 case h_2=>cases hk
 rename_i p' s' q' t' hx hy
 simp only[Option.some.injEq,Prod.mk.injEq]at hk
 obtain⟨rfl,rfl,rfl,rfl,rfl⟩:=hk
 unfold execOp
 have hg:eqGuard o' ty x y (Value.int p' s') (Value.int q' t')=pure ():=by cases o'<;>rfl
 simp only[hop,hx,hy,hg,Sem.run_bind,Sem.run_pure,Result.andThen_ok,hr ty ty2,aa4]
 refine⟨b7.of,?_⟩
 unfold ai8
 rw[he]
def bX0(ops:Array Oper)(b:Act)(i:Nat):Option (TypeId × TypeId × IntKind × Int) :=
 if Region.wanted (ah4 ops i) (yielded ops b.tmps)then(match (ah4 ops i).op with
  | .convert t d x=>(match b.eval x with|.int p s=>some (t,d,p,s)|_=>none)
  | _=>none)else none
theorem aN3{t d:TypeId}{p q:IntKind}{s:Int}{Fs:ai2 Gr}{val:Nat→Value}(he:(U9 Fs k).fix=some fun _=>.int q v)(hk:bX0 ops b i=some (t,d,p,s))(ht:(P.underlying t).isSome=true)(hd:P.underlying d=some (.int q))(hv:q.wrap s=v) :
  U0 P ops (ah4 ops i) b w (fun v w'=>(∃ y:b7 w,w'=y.w)∧ai8 Fs k val v w'):=by
 unfold bX0 at hk
 unfold U0
 split at hk
 case isFalse=>cases hk
 rename_i hw
 rw[if_pos hw]
 split at hk
 case h_2=>cases hk
 rename_i t' d' x hop
 split at hk
 case h_2=>cases hk
 rename_i p' s' hx
 simp only[Option.some.injEq,Prod.mk.injEq]at hk
 obtain⟨rfl,rfl,rfl,rfl⟩:=hk
 have hq:P.intKind d'=q:=by simp[Program.intKind,hd]
 unfold execOp
 simp only[hop,hx,Sem.run_bind,run_convert_int (hs:=ht) (hd:=hq▸hd),hq,hv,Result.andThen_ok,Sem.run_pure,aa4]
 refine⟨b7.of,?_⟩
 unfold ai8
 rw[he]
end
