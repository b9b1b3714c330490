/- Bytes in a block of the call's own; regions that draw their order: an index of a string, operations of two numbers. No condition but on sizes. -/
import Derived.Test.YthbepablpaldgaaGreatSM16
import Derived.Test.YthbepablpaldgaaGreatSM22
import Derived.Laws.OwnMore
import Derived.Laws.IdiomStrings
namespace Go.Proofs.YthbepablpaldgaaGreat
set_option linter.unusedVariables false
open Go.ChangeShapes Go.WideShapes Go.ChangeAt Go.RowKit
def Row8(w:World)(g:Nat)(L:List Int):Prop :=
 ∃ (C:Array Value) (T:TypeId) (f:Nat × Nat),w.heap[g]?=some (.cells C T f)∧(∀ j,j<C.size→¬ (f.1≤j∧j<f.2))∧C.toList.take L.length=L.map (.int .u8)
theorem Row8.lt{w:World}{g:Nat}{L:List Int}(h:Row8 w g L):g<w.heap.size:=h.elim fun _ h=>h.elim fun _ h=>h.elim fun _ h=>(Array.getElem?_eq_some_iff.1 h.1).1
theorem Row8.at{w:World}{g i:Nat}{L:List Int}(h:Row8 w g L)(hi:i<L.length):w.cell? ⟨g,i,none⟩=some (.int .u8 (L.getD i 0))∧w.frozen? ⟨g,i,none⟩=false:=by
 obtain⟨C,T,f,h1,h2,h3⟩:=h
 have e:C[i]?=some (.int .u8 (L.getD i 0)):=by
  have:=congrArg (fun m=>m[i]?) h3
  simp only[List.getElem?_take,if_pos hi,List.getElem?_map,List.getElem?_eq_getElem hi,Option.map_some,Array.getElem?_toList]at this
  rw[this,List.getD,List.getElem?_eq_getElem hi];rfl
 have hs:i<C.size:=(Array.getElem?_eq_some_iff.1 e).1
 refine⟨by simp[World.cell?,h1,e],?_⟩
 have:=h2 i hs
 simp only[World.frozen?,h1]
 simp only[Bool.and_eq_false_imp,decide_eq_true_eq,decide_eq_false_iff_not]
 exact fun a b=>this ⟨a,b⟩
theorem Row8.to{w W:World}{g:Nat}{L:List Int}(h:Row8 w g L)(k:Grows w W):Row8 W g L:=by
 have hl:=h.lt
 obtain⟨C,T,f,h1,h2,h3⟩:=h
 exact⟨C,T,f,by rw[k.out.block g hl];exact h1,h2,h3⟩
theorem Row8.set{w:World}{g i:Nat}{L:List Int}(h:Row8 w g L)(hi:i<L.length)(v:Int):Row8 (w.setCell ⟨g,i,none⟩ (.int .u8 v)) g (L.set i v):=by
 obtain⟨C,T,f,h1,h2,h3⟩:=h
 refine⟨C.setIfInBounds i (.int .u8 v),T,f,?_,fun j hj=>h2 j (by simpa using hj),?_⟩
 ·simp[World.setCell,Array.getElem?_modify,h1]
 ·rw[List.length_set,List.map_set,← h3,Array.toList_setIfInBounds,List.take_set]
theorem Row8.str{P:Program}{w:World}{g c n:Nat}{L:List Int}(h:Row8 w g L)(hn:L.length=n){t d e:TypeId}(ht:P.underlying t=some (.slice e))(he:P.underlying e=some (.int .u8))(hd:P.underlying d=some .string) :
  ∀ W':World,[Grows w W']→(convert t d (.slice (some ⟨g,0,none⟩) n c)).run P W'=.ok (.string (strOfNums L)) W':=fun W' k =>
 run_convert_bytes_arg W' t e ht he g 0 n c L hn (fun i hi=>by rw[Nat.zero_add];exact((h.to k).at (by omega)).1) d hd
theorem Row8.conv{w:World}{s:ByteArray}{c:Nat}{T:TypeId}:Row8 (w.drew.alloc (.cells (bytesRow s c) T ((bytesRow s c).size,(bytesRow s c).size+1))) w.heap.size (byteList s):=by
 refine⟨bytesRow s c,T,((bytesRow s c).size,(bytesRow s c).size+1),?_,fun j hj k=>by simp only at k;omega,?_⟩
 ·show(w.heap.push _)[w.heap.size]?=_
  simp
 simp[bytesRow,byteList]
theorem Row8.made{w:World}{n:Nat}{T:TypeId}{C:Array Value}(hC:C=madeCells #[.int .u8 0] n):Row8 (w.alloc (.cells C T)) w.heap.size (List.replicate n 0):=by
 refine⟨C,T,(0,0),(show(w.heap.push _)[w.heap.size]?=_ by simp),fun j hj k=>by simp only at k;omega,?_⟩
 subst hC
 rw[toList_madeCells_one];simp
theorem i64_wr{n:Int}(h0:0≤n)(h1:n≤9223372036854775807):IntKind.i64.wrap n=n:=by rw[IntKind.wrap_i64];omega
theorem w64{n:Int}(h0:-9223372036854775808≤n)(h1:n≤9223372036854775807):wrap64 n=n:=by unfold wrap64;omega
theorem u8_wr{n:Int}(h0:0≤n)(h1:n≤255):IntKind.u8.wrap n=n:=by simp[IntKind.wrap,IntKind.bits,IntKind.signed];omega
theorem lfsr_i{x:Int}(h0:0≤x)(h1:x≤255):bits .or .i64 (x*2 % 256) (bits .and .i64 (x / 128+x / 16+x / 4+x) 1)=lfsr x:=by
 obtain⟨k,rfl⟩:∃ k:Fin 256,x=(k.1:Int):=⟨⟨x.toNat,by omega⟩,by simp;omega⟩
 clear h0 h1
 revert k
 decide +kernel
theorem lfsr_s{x:Int}(h0:0≤x)(h1:x≤255):bits .or .i64 (x*2 % 256) (bits .and .i64 (bits .xor .i64 (bits .xor .i64 (bits .xor .i64 (x / 128) (x / 16)) (x / 4)) x) 1)=lfsr x:=by
 obtain⟨k,rfl⟩:∃ k:Fin 256,x=(k.1:Int):=⟨⟨x.toNat,by omega⟩,by simp;omega⟩
 clear h0 h1
 revert k
 decide +kernel
theorem i64_and1{n:Int}(h0:0≤n)(h1:n≤255):bits .and .i64 n 1=n % 2:=by
 obtain⟨k,rfl⟩:∃ k:Fin 256,n=(k.1:Int):=⟨⟨n.toNat,by omega⟩,by simp;omega⟩
 clear h0 h1
 revert k
 decide +kernel
theorem u8_and15{n:Int}(h0:0≤n)(h1:n≤255):bits .and .u8 n 15=n % 16:=by
 obtain⟨k,rfl⟩:∃ k:Fin 256,n=(k.1:Int):=⟨⟨n.toNat,by omega⟩,by simp;omega⟩
 clear h0 h1
 revert k
 decide +kernel
theorem u8_and1{n:Int}(h0:0≤n)(h1:n≤255):bits .and .u8 n 1=n % 2:=by
 obtain⟨k,rfl⟩:∃ k:Fin 256,n=(k.1:Int):=⟨⟨n.toNat,by omega⟩,by simp;omega⟩
 clear h0 h1
 revert k
 decide +kernel
theorem codeLater{P:Program}{c:Code}{Q:Exit→Act→World→Prop}{a:Act}{w W:World}[g:Grows w W](h:∀ x:Later w,c.wp P Q a x.w):c.wp P Q a W:=h ⟨W,g.out⟩
theorem shr_bd{b:Int}(h0:0≤b)(h1:b≤255)(k:Nat):0≤b / 2 ^ k∧b / 2 ^ k≤255:=by
 have hp:(0:Int)<2 ^ k:=Int.pow_pos (by decide)
 exact⟨Int.ediv_nonneg h0 (Int.le_of_lt hp),Int.le_trans (Int.ediv_le_self _ h0) h1⟩
section
variable {P:Program} {b:Int} {k:Nat}
theorem run_quo8{n:Int}{p:Nat}(h:n=(p:Int))(hb:p≤4000)(ty ty2:TypeId)(w:World):(binOp .quo ty (.int .i64 n) (.int .i64 8)).run P w=.ok (.int .i64 ((p / 8:Nat):Int)) w:=by
 subst h
 simp only[go_sem]
 simp
 exact i64_wr (by omega) (by omega)
theorem run_rem8{n:Int}{p:Nat}(h:n=(p:Int))(hb:p≤4000)(ty ty2:TypeId)(w:World):(binOp .rem ty (.int .i64 n) (.int .i64 8)).run P w=.ok (.int .i64 ((p % 8:Nat):Int)) w:=by
 subst h
 simp only[go_sem]
 simp
 exact Int.tmod_eq_emod_of_nonneg (by omega)
theorem run_shrK(h:k<8)(ty ty2:TypeId)(w:World):(binOp .shr ty (.int .u8 b) (.int .i64 (k:Int))).run P w=.ok (.int .u8 (b / 2 ^ k)) w:=by
 simp[go_sem]
theorem run_shlK(h:k<8)(ty ty2:TypeId)(w:World):(binOp .shl ty (.int .u8 b) (.int .i64 (k:Int))).run P w=.ok (.int .u8 (IntKind.u8.wrap (b*2 ^ k))) w:=by
 simp[go_sem]
theorem run_and1(h0:0≤b)(h1:b≤255)(ty ty2:TypeId)(w:World):(binOp .and ty (.int .u8 b) (.int .u8 1)).run P w=.ok (.int .u8 (b % 2)) w:=by
 simp[go_sem,u8_and1 h0 h1]
theorem run_or{a:Int}(ty ty2:TypeId)(w:World):(binOp .or ty (.int .u8 a) (.int .u8 b)).run P w=.ok (.int .u8 (orU a b)) w:=by
 simp only[go_sem];rfl
theorem run_xor{a:Int}(ty ty2:TypeId)(w:World):(binOp .xor ty (.int .u8 a) (.int .u8 b)).run P w=.ok (.int .u8 (xorU a b)) w:=by
 simp only[go_sem];rfl
end
theorem run_mk0{P:Program}{t e:Nat}(h1:P.underlying t=some (.slice e))(h2:(P.info? e).map (fun i=>(i.zero,i.size,i.bytes))=some (some (.int .u8 0),1,1)){l c:Nat}(hl:l≤c)(hn:c≤1000000000){a b:Int}(ha:a=l)(hb:b=c) :
  ∀ w:World,(Instr.makeSlice t (.int .i64 a) (.int .i64 b)).run P w=.ok (.slice (some ⟨w.heap.size,0,none⟩) l c) (w.alloc (.cells (madeCells #[.int .u8 0] c) e)):=fun w=>by
 subst ha hb
 obtain⟨i,hi,h3⟩:=Option.map_eq_some_iff.1 h2
 simp only[Prod.mk.injEq]at h3
 obtain⟨h4,h5,h6⟩:=h3
 have:=run_make (P:=P) w t e i _ h1 hi h4 .i64 .i64 (l:Int) (c:Int) (by omega) (by omega) (by rw[h6];omega) (by omega)
 simp only[Int.toNat_natCast,h5,Nat.mul_one]at this
 exact this
theorem Own.room{W:World}{T c:Nat}(hc:c≤1000000000)(x:Later (W.alloc (.cells (madeCells #[.int .u8 0] c) T))):Own encByte T 1 W.heap.size x.w (some ⟨W.heap.size,0,none⟩) c [] :=
 ⟨encByte_len,rfl,.inr ⟨W.heap.size,c,madeCells #[.int .u8 0] c,rfl,Nat.le_refl _,by
  rw[x.h.block _ (by simp)]
  show(W.heap.push _)[W.heap.size]?=_
  simp,by simp,by unfold maxLen;omega,by rw[size_madeCells,Nat.mul_one],by simp⟩⟩
theorem Held.sl8{w:World}{g T:Nat}{l:List Int}(h:Held w g (l.map (.int .u8)) T):Sl encByte w (some ⟨g,0,none⟩) l:=by
 intro i x hx
 refine⟨g,0,rfl,h.lt,fun j v hj=>?_⟩
 match j,hj with
 | 0,hj =>
  simp only[encByte,List.getElem?_cons_zero,Option.some.injEq]at hj
  subst hj
  have:=h.cell i
  simp only[encByte_len,Nat.mul_one,Nat.zero_add,Nat.add_zero]
  rw[this,List.getElem?_map,hx];rfl
 | j+1,hj=>simp[encByte]at hj
theorem scr_step{D:List Int}{k:Nat}{x:Int}{F:List Int}(h:D.take k++scr x (D.drop k)=F)(hk:k<D.length):(D.set k (xorU (D.getD k 0) x)).take (k+1)++scr (lfsr x) ((D.set k (xorU (D.getD k 0) x)).drop (k+1))=F:=by
 rw[← h,List.drop_eq_getElem_cons hk,scr,List.take_set,List.drop_set_of_lt (Nat.lt_succ_self k),List.getD,List.getElem?_eq_getElem hk,Option.getD_some,List.take_succ_eq_append_getElem hk,List.set_append_right _ _ (by simp;omega)]
 simp[Nat.min_eq_left (Nat.le_of_lt hk)]
theorem scr_app{L l:List Int}{k:Nat}{x b:Int}{F:List Int}(h:L++scr x (l.drop k)=F)(hd:l.drop k=b::l.drop (k+1)):(L++[xorU b x])++scr (lfsr x) (l.drop (k+1))=F:=by
 rw[← h,hd,scr];simp
theorem encB_app{l:List Int}{k:Nat}{b:Int}(hd:l.drop k=b::l.drop (k+1)):encB (l.take k)++[nib (b / 16),nib (b % 16)]=encB (l.take (k+1)):=by
 rw[take_snoc' hd,encB,encB,List.flatMap_append];simp
section
variable {P:Program} {ops:Array Oper} {b:Act} {w:World} {i:Nat}
theorem step_row8{rest:List Oper}{o:Oper}{a:Act}{Q:Exit→Act→World→Prop}(hgd:o.guard=none)(ty:TypeId)(x y:Operand)(ho:o.op=.store ty x y)(g k:Nat)(hx:a.eval x=.pointer (some ⟨g,k,none⟩)){L L2:List Int}{v:Int}(H:Row8 w g L)(hv:a.eval y=.int .u8 v)
  (hi:(P.info? ty).map (·.size)=some 1) (hk:k<L.length) (hL:L.set k v=L2) {w0:World} (gr:Grows w0 w) (hb:w0.heap.size≤g) (h:∀ z:Later w0,Row8 z.w g L2→wpList P ops Q rest (a.put o.dst undef) z.w):wpList P ops Q (o::rest) a w:=by
 refine wpList_plain hgd fun _ hK=>?_
 have hf:=H.at hk
 have hs:=run_storeVar_held (P:=P) (w:=w) (b:=g) (o:=k) (ty:=ty) (v:=.int .u8 v) (us:=[.int .u8 v]) rfl (fun j hj=>by(have hj0:j=0:=by simpa using hj);subst hj0;exact⟨by rw[Nat.add_zero,hf.1];rfl,hf.2⟩) hi (fun u hu=>by simp at hu;subst hu;rfl)
 unfold Oper.wp execOp
 simp only[ho,hx,hv,Instr.storeAt,Instr.sureAddr,Sem.run_bind,Sem.run_pure,Result.andThen_ok,hs]
 exact hK _ _ (h ⟨_,gr.out.setCell hb _⟩ (hL▸H.set hk v))
def sixAt(ops:Array Oper)(b:Act)(i:Nat):Option (TypeId × ByteArray × Int) :=
 if Region.wanted (opAt ops i) (yielded ops b.tmps)then(match (opAt ops i).op with
  | .index t x y=>(match b.eval x,b.eval y with|.string s,.int .i64 k=>some (t,s,k)|_,_=>none)
  | _=>none)else none
theorem g_six{t:TypeId}{s:ByteArray}{k:Nat}{v:Int}{Fs:EntL Gr}{val:Nat→Value}{q:Nat}(he:(entAt Fs q).fix=some fun _=>.int .u8 v)(hk:sixAt ops b i=some (t,s,(k:Int)))(hu:P.underlying t=some .string)(hl:k<s.size)(hv:((s[k]'hl).toNat:Int)=v) :
  gives P ops (opAt ops i) b w (fun v w'=>(∃ y:Later w,w'=y.w)∧entP Fs q val v w'):=by
 unfold sixAt at hk
 unfold gives
 split at hk
 case isFalse=>cases hk
 rename_i hw
 rw[if_pos hw]
 split at hk
 case h_2=>cases hk
 rename_i t' x y hop
 split at hk
 case h_2=>cases hk
 rename_i s' k' hx hy
 simp only[Option.some.injEq,Prod.mk.injEq]at hk
 obtain⟨rfl,rfl,rfl⟩:=hk
 unfold execOp
 have hj:(0:Int)≤k∧(k:Int)<s'.size:=⟨by omega,by omega⟩
 simp only[hop,Sem.run_bind,hx,hy,run_index_string (h:=hu),dif_pos hj,Int.toNat_natCast,hv,Result.andThen_ok,Sem.run_pure,givesUpon]
 refine⟨Later.of,?_⟩
 unfold entP
 rw[he]
def binAt(ops:Array Oper)(b:Act)(i:Nat):Option (BinOp × IntKind × Int × IntKind × Int) :=
 if Region.wanted (opAt ops i) (yielded ops b.tmps)then(match (opAt ops i).op with
  | .binOp o _ x y _=>(match b.eval x,b.eval y with|.int p s,.int q t=>some (o,p,s,q,t)|_,_=>none)
  | _=>none)else none
theorem g_bin{o:BinOp}{p q:IntKind}{s t:Int}{v:Value}{Fs:EntL Gr}{val:Nat→Value}{k:Nat}(he:(entAt Fs k).fix=some fun _=>v)(hk:binAt ops b i=some (o,p,s,q,t))(hr:∀ (ty ty2:TypeId) (w:World),(binOp o ty (.int p s) (.int q t)).run P w=.ok v w) :
  gives P ops (opAt ops i) b w (fun v w'=>(∃ y:Later w,w'=y.w)∧entP Fs k val v w'):=by
 unfold binAt at hk
 unfold gives
 split at hk
 case isFalse=>cases hk
 rename_i hw
 rw[if_pos hw]
 split at hk
 case h_2=>cases hk
 rename_i o' ty x y ty2 hop
 split at hk
 case h_2=>cases hk
 rename_i p' s' q' t' hx hy
 simp only[Option.some.injEq,Prod.mk.injEq]at hk
 obtain⟨rfl,rfl,rfl,rfl,rfl⟩:=hk
 unfold execOp
 have hg:eqGuard o' ty x y (Value.int p' s') (Value.int q' t')=pure ():=by cases o'<;>rfl
 simp only[hop,hx,hy,hg,Sem.run_bind,Sem.run_pure,Result.andThen_ok,hr ty ty2,givesUpon]
 refine⟨Later.of,?_⟩
 unfold entP
 rw[he]
def cvtAt(ops:Array Oper)(b:Act)(i:Nat):Option (TypeId × TypeId × IntKind × Int) :=
 if Region.wanted (opAt ops i) (yielded ops b.tmps)then(match (opAt ops i).op with
  | .convert t d x=>(match b.eval x with|.int p s=>some (t,d,p,s)|_=>none)
  | _=>none)else none
theorem g_cvt{t d:TypeId}{p q:IntKind}{s v:Int}{Fs:EntL Gr}{val:Nat→Value}{k:Nat}(he:(entAt Fs k).fix=some fun _=>.int q v)(hk:cvtAt ops b i=some (t,d,p,s))(ht:(P.underlying t).isSome=true)(hd:P.underlying d=some (.int q))(hv:q.wrap s=v) :
  gives P ops (opAt ops i) b w (fun v w'=>(∃ y:Later w,w'=y.w)∧entP Fs k val v w'):=by
 unfold cvtAt at hk
 unfold gives
 split at hk
 case isFalse=>cases hk
 rename_i hw
 rw[if_pos hw]
 split at hk
 case h_2=>cases hk
 rename_i t' d' x hop
 split at hk
 case h_2=>cases hk
 rename_i p' s' hx
 simp only[Option.some.injEq,Prod.mk.injEq]at hk
 obtain⟨rfl,rfl,rfl,rfl⟩:=hk
 have hq:P.intKind d'=q:=by simp[Program.intKind,hd]
 unfold execOp
 simp only[hop,hx,Sem.run_bind,run_convert_int (hs:=ht) (hd:=hq▸hd),hq,hv,Result.andThen_ok,Sem.run_pure,givesUpon]
 refine⟨Later.of,?_⟩
 unfold entP
 rw[he]
end
