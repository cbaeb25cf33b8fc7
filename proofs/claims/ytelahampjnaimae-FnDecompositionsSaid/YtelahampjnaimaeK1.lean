/- The pure machine (part 1). No further condition. -/
import Derived.Calls
import Derived.Laws.Sem
import Derived.Laws.Cells
import Derived.Laws.CopyRow
import Derived.ChangeKeysEq
import Derived.Below
import Derived.Laws.Append
set_option linter.unusedVariables false
set_option linter.unusedSimpArgs false
namespace Go.Zq
abbrev ZE:=@List.eq_nil_of_length_eq_zero
abbrev Yy:=@Array.getD_eq_getD_getElem?
abbrev zU:=@List.getD_eq_getElem?_getD
abbrev Lc:=@List.pairwise_iff_getElem
abbrev ZA:=@Classical.byContradiction
abbrev W3:=@List.getElem?_append_left
abbrev yW:=@List.getElem?_eq_getElem
abbrev ye:=@Option.map_eq_some_iff
abbrev Z3:=@List.getElem?_eq_none
abbrev xe:=@List.contains_iff_mem
abbrev Y5:=@List.take_append_drop
abbrev vG:=@Nat.pow_le_pow_right
abbrev ud:=@Nat.mul_le_mul_right
abbrev Zk:=@List.mem_iff_getElem
abbrev ZN:=@Nat.eq_of_testBit_eq
abbrev wv:=@beq_eq_false_iff_ne
abbrev wh:=@Nat.testBit_two_pow
abbrev yD:=@Bool.false_eq_true
abbrev uc:=@List.length_append
abbrev Yj:=@Nat.lt_of_lt_of_le
abbrev xo:=@List.mem_singleton
abbrev Y7:=@List.mem_cons_self
abbrev WE:=@List.flatMap_cons
abbrev WF:=@List.append_assoc
abbrev z8:=@Int.toNat_natCast
abbrev zn:=@Option.some.injEq
abbrev yT:=@Bool.not_eq_true'
abbrev ya:=@decide_eq_true_eq
abbrev xi:=@Result.andThen_ok
abbrev WN:=@bne_self_eq_false
abbrev XE:=@List.cons_append
abbrev ZK:=@List.length_cons
abbrev XK:=@List.mem_flatMap
abbrev zp:=@Bool.and_eq_true
abbrev yN:=@List.all_eq_true
abbrev ZT:=@List.any_eq_true
abbrev ZL:=@beq_self_eq_true
abbrev ze:=@Option.bind_some
abbrev XL:=@List.getElem_mem
abbrev y3:=@Option.getD_some
abbrev Za:=@Nat.zero_testBit
abbrev zI:=@decide_eq_false
abbrev ZH:=@List.range_succ
abbrev zO:=@List.mem_append
abbrev y8:=@Bool.or_eq_true
abbrev xy:=@List.append_nil
abbrev uz:=@List.length_map
abbrev Zg:=@Nat.two_pow_pos
abbrev yJ:=@Bool.eq_iff_iff
abbrev yU:=@Option.map_some
abbrev XF:=@List.length_set
abbrev zw:=@decide_eq_true
abbrev ux:=@Bool.false_and
abbrev Ym:=@Bool.not_false
abbrev vo:=@Nat.testBit_or
abbrev Y4:=@List.mem_range
abbrev yf:=@List.mem_cons
abbrev Yp:=@Bool.or_false
abbrev z6:=@Bool.true_and
abbrev ZO:=@Bool.false_or
abbrev yS:=@Bool.not_true
abbrev wT:=@Bool.and_self
abbrev xp:=@Sem.run_bind
abbrev Zf:=@Nat.le_trans
abbrev yX:=@List.mem_map
abbrev xF:=@Nat.le_refl
abbrev y4:=@forall_and
abbrev zo:=@cond_false
abbrev ym:=@beq_iff_eq
abbrev zq:=@cond_true
abbrev yb:=@if_false
abbrev z5:=@if_true
abbrev zy:=@if_neg
inductive Sh where
 | s | p
 | ag (hs:List Sh)
 deriving Repr
mutual
def Sh.size:Sh→Nat
 | .s=>1
 | .p=>1
 | .ag hs=>Sh.sizes hs
def Sh.sizes:List Sh→Nat
 | []=>0
 | h :: hs=>h.size + Sh.sizes hs
end
mutual
def Sh.flat:Sh→Bool
 | .s=>true
 | .p=>false
 | .ag hs=>Sh.flats hs
def Sh.flats:List Sh→Bool
 | []=>true
 | h :: hs=>h.flat && Sh.flats hs
end
mutual
def Sh.beq:Sh→Sh→Bool
 | .s,.s=>true
 | .p,.p=>true
 | .ag a,.ag b=>Sh.beqs a b
 | _,_=>false
def Sh.beqs:List Sh→List Sh→Bool
 | [],[]=>true
 | a :: as,b :: bs=>a.beq b && Sh.beqs as bs
 | _,_=>false
end
mutual
theorem Sh.beq_eq:∀ a b:Sh,a.beq b=true→a=b
 | .s,.s,_=>rfl
 | .p,.p,_=>rfl
 | .ag a,.ag b,h=>by rw [Sh.beqs_eq a b (by simpa [Sh.beq] using h)]
 | .s,.p,h | .s,.ag _,h | .p,.s,h | .p,.ag _,h | .ag _,.s,h | .ag _,.p,h=>by simp [Sh.beq] at h
theorem Sh.beqs_eq:∀ a b:List Sh,Sh.beqs a b=true→a=b
 | [],[],_=>rfl
 | a :: as,b :: bs,h=>by
   simp only [Sh.beqs,zp] at h
   rw [Sh.beq_eq a b h.1,Sh.beqs_eq as bs h.2]
 | [],_ :: _,h | _ :: _,[],h=>by simp [Sh.beqs] at h
end
inductive Tok where
 | nl | sh
 | at (r:Nat) (p:List Nat)
 | bx (r:Nat)
 deriving DecidableEq,Repr
def Tok.root?:Tok→Option Nat
 | .at r _=>some r
 | .bx r=>some r
 | _=>none
def Tok.isBx:Tok→Bool
 | .bx _=>true
 | _=>false
inductive V where
 | dead
 | gone
 | int (k:IntKind) (n:Int)
 | bool (b:Bool)
 | sl (t:Tok) (h:Sh) (lo:Nat) (xs:List V)
 | ref (t:Tok) (i:Nat) (q:List Nat) (c:V)
 | agg (vs:List V)
 | tup (vs:List V)
 | fn (f:Nat) (fs env:List V)
 | lin (v:V)
 deriving Repr,Inhabited
mutual
def V.shape:V→Sh
 | .int _ _ | .bool _=>.s
 | .agg vs=>.ag (V.shapes vs)
 | .lin v=>V.shape v
 | .dead | .gone | .sl .. | .ref .. | .tup _ | .fn ..=>.p
def V.shapes:List V→List Sh
 | []=>[]
 | v :: vs=>v.shape :: V.shapes vs
end
def V.isAgg:V→Bool
 | .agg _=>true
 | _=>false
mutual
def V.map (f:Tok→Option Tok):V→V
 | .dead=>.dead
 | .gone=>.gone
 | .int k n=>.int k n
 | .bool b=>.bool b
 | .sl t h lo xs=>match t with
   | .sh=>.sl .sh h lo xs
   | t=>match f t with
     | some t'=>.sl t' h lo (if h.flat then xs else V.maps f xs)
     | none=>.dead
 | .ref t i q c=>match t with
   | .sh=>.ref .sh i q c
   | t=>match f t with
     | some t'=>.ref t' i q (V.map f c)
     | none=>.dead
 | .agg vs=>.agg (V.maps f vs)
 | .tup vs=>.tup (V.maps f vs)
 | .fn g fs env=>.fn g (V.maps f fs) (V.maps f env)
 | .lin v=>.lin (V.map f v)
def V.maps (f:Tok→Option Tok):List V→List V
 | []=>[]
 | v :: vs=>V.map f v :: V.maps f vs
end
mutual
def V.erase:V→V
 | .dead=>.dead
 | .gone=>.dead
 | .int k n=>.int k n
 | .bool b=>.bool b
 | .sl _ h _ xs=>.sl .sh h 0 (if h.flat then xs else V.erases xs)
 | .ref _ _ _ c=>.ref .sh 0 [] (V.erase c)
 | .agg vs=>.agg (V.erases vs)
 | .tup vs=>.tup (V.erases vs)
 | .fn g fs env=>.fn g (V.erases fs) (V.erases env)
 | .lin v=>V.erase v
def V.erases:List V→List V
 | []=>[]
 | v :: vs=>V.erase v :: V.erases vs
end
mutual
def V.toks:V→List Tok
 | .sl t h _ xs=>match t with
   | .sh=>[]
   | .nl=>if h.flat then [] else V.tokss xs
   | t=>t :: (if h.flat then [] else V.tokss xs)
 | .ref t _ _ c=>match t with
   | .sh=>[]
   | .nl=>V.toks c
   | t=>t :: V.toks c
 | .agg vs=>V.tokss vs
 | .tup vs=>V.tokss vs
 | .fn _ fs env=>V.tokss fs++V.tokss env
 | .lin v=>V.toks v
 | .dead | .gone | .int .. | .bool _=>[]
def V.tokss:List V→List Tok
 | []=>[]
 | v :: vs=>V.toks v++V.tokss vs
end
mutual
def V.frz (K:List Tok):V→V
 | .dead=>.dead
 | .gone=>.gone
 | .int k n=>.int k n
 | .bool b=>.bool b
 | .sl t h lo xs=>match t with
   | .sh=>.sl .sh h lo xs
   | t=>if K.contains t then (if h.flat then .sl .sh h 0 xs else if (V.tokss xs).all K.contains then .sl .sh h 0 (V.erases xs) else .dead)
     else .sl t h lo (if h.flat then xs else V.frzs K xs)
 | .ref t i q c=>match t with
   | .sh=>.ref .sh i q c
   | t=>if K.contains t then (if (V.toks c).all K.contains then .ref .sh 0 [] (V.erase c) else .dead) else .ref t i q (V.frz K c)
 | .agg vs=>.agg (V.frzs K vs)
 | .tup vs=>.tup (V.frzs K vs)
 | .fn g fs env=>.fn g (V.frzs K fs) (V.frzs K env)
 | .lin v=>.lin (V.frz K v)
def V.frzs (K:List Tok):List V→List V
 | []=>[]
 | v :: vs=>V.frz K v :: V.frzs K vs
end
mutual
def V.setP:V→List Nat→V→V
 | _,[],u=>u
 | .agg vs,f :: q,u=>.agg (V.setPs vs f q u)
 | v,_ :: _,_=>v
def V.setPs:List V→Nat→List Nat→V→List V
 | [],_,_,_=>[]
 | v :: vs,0,q,u=>v.setP q u :: vs
 | v :: vs,f + 1,q,u=>v :: V.setPs vs f q u
end
def V.seen (q' q:List Nat) (u c:V):V:=if q'=[] then c.setP q u else u
mutual
def V.mut (t:Tok) (i:Nat) (q:List Nat) (u:V):V→V
 | .dead=>.dead
 | .gone=>.gone
 | .int k n=>.int k n
 | .bool b=>.bool b
 | .sl t' h lo xs=>match t' with
   | .sh=>.sl .sh h lo xs
   | .bx r=>if t = .bx r then .dead else .sl (.bx r) h lo (if h.flat then xs else V.muts t i q u xs)
   | t'=>if t=t' then .sl t' h lo (if lo≤i then V.setPs (if h.flat then xs else V.muts t i q u xs) (i - lo) q u else (if h.flat then xs else V.muts t i q u xs))
     else .sl t' h lo (if h.flat then xs else V.muts t i q u xs)
 | .ref t' i' q' c=>match t' with
   | .sh=>.ref .sh i' q' c
   | t'=>if t=t'∧i=i' then (if q'=[]∨q'=q then .ref t' i' q' (V.seen q' q u (V.mut t i q u c)) else .dead) else .ref t' i' q' (V.mut t i q u c)
 | .agg vs=>.agg (V.muts t i q u vs)
 | .tup vs=>.tup (V.muts t i q u vs)
 | .fn g fs env=>.fn g (V.muts t i q u fs) (V.muts t i q u env)
 | .lin v=>.lin (V.mut t i q u v)
def V.muts (t:Tok) (i:Nat) (q:List Nat) (u:V):List V→List V
 | []=>[]
 | v :: vs=>V.mut t i q u v :: V.muts t i q u vs
end
mutual
def V.ret (m:Nat):V→V
 | .sl t h _ xs=>match m with
   | 0=>.sl .sh h 0 (if h.flat then xs else V.erases xs)
   | m + 1=>match t with
     | .nl=>.sl .nl h 0 []
     | _=>.sl .sh h 0 (if h.flat then xs else V.rets m xs)
 | .agg vs=>.agg (V.rets m vs)
 | .tup vs=>.tup (V.rets m vs)
 | .lin v=>V.ret m v
 | v=>V.erase v
def V.rets (m:Nat):List V→List V
 | []=>[]
 | v :: vs=>V.ret m v :: V.rets m vs
end
mutual
def V.tag (d:Nat) (p:List Nat) (m:Nat):V→V
 | .sl t h _ xs=>match m with
   | 0=>.sl .sh h 0 xs
   | m + 1=>match t with
     | .nl=>.sl .nl h 0 []
     | _=>.sl (.at d p) h 0 (if h.flat then xs else V.tags d p m 0 xs)
 | .agg vs=>.agg (V.tags d p m 0 vs)
 | .tup vs=>.tup (V.tags d p m 0 vs)
 | v=>v
def V.tags (d:Nat) (p:List Nat) (m:Nat) (k:Nat):List V→List V
 | []=>[]
 | v :: vs=>V.tag d (p++[k]) m v :: V.tags d p m (k + 1) vs
end
mutual
def V.own (p:List Nat) (m:Nat):V→Option (List (List Nat×Tok))
 | .sl t h lo xs=>match m with
   | 0=>some []
   | m + 1=>match t with
     | .nl=>some []
     | .at r q=>if lo=0 then (if h.flat then some [(p,.at r q)] else (V.owns p m 0 xs).map fun l=>(p,.at r q) :: l) else none
     | _=>none
 | .agg vs=>V.owns p m 0 vs
 | .tup vs=>V.owns p m 0 vs
 | .lin v=>V.own p m v
 | .dead=>none
 | .gone=>none
 | .fn ..=>none
 | .ref ..=>none
 | .int ..=>some []
 | .bool _=>some []
def V.owns (p:List Nat) (m:Nat) (k:Nat):List V→Option (List (List Nat×Tok))
 | []=>some []
 | v :: vs=>match V.own (p++[k]) m v,V.owns p m (k + 1) vs with
   | some a,some b=>some (a++b)
   | _,_=>none
end
mutual
def V.low (m:Nat):V→List Tok
 | .sl t h lo xs=>match m with
   | 0=>V.toks (.sl t h lo xs)
   | m + 1=>match t with
     | .nl=>[]
     | _=>if h.flat then [] else V.lows m xs
 | .agg vs=>V.lows m vs
 | .tup vs=>V.lows m vs
 | .lin v=>V.low m v
 | v=>V.toks v
def V.lows (m:Nat):List V→List Tok
 | []=>[]
 | v :: vs=>V.low m v++V.lows m vs
end
mutual
def V.mine:V→Bool
 | .sl t h _ xs=>(match t with
   | .sh=>false
   | .bx _=>false
   | _=>true) && (h.flat || V.mines xs)
 | .agg vs=>V.mines vs
 | .tup vs=>V.mines vs
 | .lin v=>V.mine v
 | .int .. | .bool _=>true
 | .dead | .gone | .fn .. | .ref ..=>false
def V.mines:List V→Bool
 | []=>true
 | v :: vs=>V.mine v && V.mines vs
end
mutual
def V.pure:V→Bool
 | .sl t h _ xs=>t == .sh && (h.flat || V.pures xs)
 | .ref t _ _ c=>t == .sh && V.pure c
 | .agg vs=>V.pures vs
 | .tup vs=>V.pures vs
 | .fn _ fs env=>V.pures fs && V.pures env
 | .int .. | .bool _=>true
 | .dead | .gone | .lin _=>false
def V.pures:List V→Bool
 | []=>true
 | v :: vs=>V.pure v && V.pures vs
end
structure Blk where
 b:Nat
 base:Nat
 h:Sh
mutual
def Sh.off:Sh→List Nat→Option (Nat×Sh)
 | h,[]=>some (0,h)
 | .ag hs,f :: q=>Sh.offs hs f q
 | _,_ :: _=>none
def Sh.offs:List Sh→Nat→List Nat→Option (Nat×Sh)
 | [],_,_=>none
 | h :: _,0,q=>h.off q
 | h :: hs,f + 1,q=>(Sh.offs hs f q).map fun x=>(h.size + x.1,x.2)
end
def KU (S:Nat→Prop) (τ:Tok→Blk) (t:Tok) (h:Sh) (lo b off:Nat) (fz:Nat×Nat):Prop:=
 match t with
 | .nl=>False
 | .sh=>S b
 | .at _ _=>(τ t).b=b∧(τ t).h=h∧off=(τ t).base + lo * h.size∧fz=(0,0)
 | .bx _=>(τ t).b=b∧fz=(0,0)
def Wp (S:Nat→Prop) (τ:Tok→Blk) (t:Tok) (i:Nat) (q:List Nat) (g:Sh) (b off:Nat) (fz:Nat×Nat):Prop:=
 match t with
 | .nl=>False
 | .sh=>S b
 | _=>(τ t).b=b∧fz=(0,0)∧∃ o,(τ t).h.off q=some (o,g)∧off=(τ t).base + i * (τ t).h.size + o
mutual
def zT (w:World) (S:Nat→Prop) (τ:Tok→Blk):V→List Value→Prop
 | .dead,cs=>∃ c:Value,cs=[c]∧c.oneCell'=true
 | .gone,_=>False
 | .lin _,_=>False
 | .tup _,_=>False
 | .int k n,cs=>cs=[.int k n]
 | .bool b,cs=>cs=[.bool b]
 | .agg vs,cs=>yC w S τ vs cs
 | .fn f fs env,cs=>∃ fst cap:Array Value,cs=[.func (.func f) fst cap]∧vY w S τ fs fst.toList∧yC w S τ env cap.toList
 | .ref t i q c,cs=>∃ b off arr ty fz,cs=[.pointer (some ⟨b,off,none⟩)]∧w.heap[b]?=some (.cells arr ty fz) ∧
    Wp S τ t i q c.shape b off fz∧off + c.shape.size≤arr.size∧(t = .sh→c.toks=[]) ∧
    zT w S τ c ((arr.toList.drop off).take c.shape.size)
 | .sl t h lo xs,cs=>∃ a cap,cs=[.slice a xs.length cap]∧xs.length≤cap∧(∀ x∈xs,x.shape=h)∧(t = .sh→V.tokss xs=[]) ∧
    (cap=0∨∃ b off arr ty fz,a=some ⟨b,off,none⟩∧w.heap[b]?=some (.cells arr ty fz)∧KU S τ t h lo b off fz ∧
      off + cap * h.size≤arr.size∧yC w S τ xs ((arr.toList.drop off).take (xs.length * h.size)))
def yC (w:World) (S:Nat→Prop) (τ:Tok→Blk):List V→List Value→Prop
 | [],cs=>cs=[]
 | v :: vs,cs=>zT w S τ v (cs.take v.shape.size)∧yC w S τ vs (cs.drop v.shape.size)
def vY (w:World) (S:Nat→Prop) (τ:Tok→Blk):List V→List Value→Prop
 | [],cs=>cs=[]
 | v :: vs,cs=>∃ c cs',cs=c :: cs'∧zT w S τ v c.cells.toList∧(v.isAgg=true↔∃ a,c = .agg a)∧vY w S τ vs cs'
end
mutual
def zR (w:World) (S:Nat→Prop) (τ:Tok→Blk):V→Value→Prop
 | .dead,_=>True
 | .gone,_=>True
 | .lin v,c=>zR w S τ v c
 | .agg vs,c=>∃ arr,c = .agg arr∧yC w S τ vs arr.toList
 | .tup vs,c=>∃ arr,c = .tuple arr∧yB w S τ vs arr.toList
 | .int k n,c=>c = .int k n
 | .bool b,c=>c = .bool b
 | .sl t h lo xs,c=>zT w S τ (.sl t h lo xs) [c]
 | .ref t i q v,c=>zT w S τ (.ref t i q v) [c]
 | .fn f fs env,c=>zT w S τ (.fn f fs env) [c]
def yB (w:World) (S:Nat→Prop) (τ:Tok→Blk):List V→List Value→Prop
 | [],cs=>cs=[]
 | v :: vs,cs=>∃ c cs',cs=c :: cs'∧zR w S τ v c∧yB w S τ vs cs'
end
theorem MJ {w S τ t h lo xs cs} (hh:zT w S τ (.sl t h lo xs) cs):zT w S τ .dead cs:=by
 simp only [zT] at hh ⊢
 obtain ⟨a,cap,rfl,_⟩:=hh
 exact ⟨_,rfl,rfl⟩
theorem Ld {w S τ t i q c cs} (hh:zT w S τ (.ref t i q c) cs):zT w S τ .dead cs:=by
 simp only [zT] at hh ⊢
 obtain ⟨b,off,arr,ty,fz,rfl,_⟩:=hh
 exact ⟨_,rfl,rfl⟩
theorem X0 {w w' S S' τ τ' cs} (h:zT w S τ .dead cs):zT w' S' τ' .dead cs:=by
 simpa only [zT] using h
mutual
theorem vE (w S τ):∀ (v:V) (cs:List Value),zT w S τ v cs→cs.length=v.shape.size
 | .dead,cs,h=>by
   simp only [zT] at h
   obtain ⟨c,rfl,_⟩:=h
   simp [V.shape,Sh.size]
 | .gone,cs,h=>by simp [zT] at h
 | .lin _,cs,h=>by simp [zT] at h
 | .tup _,cs,h=>by simp [zT] at h
 | .int k n,cs,h=>by simp only [zT] at h;subst h;simp [V.shape,Sh.size]
 | .bool b,cs,h=>by simp only [zT] at h;subst h;simp [V.shape,Sh.size]
 | .agg vs,cs,h=>by
   simp only [zT] at h
   simpa [V.shape,Sh.size] using UG w S τ vs cs h
 | .fn f fs env,cs,h=>by
   simp only [zT] at h
   obtain ⟨fst,cap,rfl,_⟩:=h
   simp [V.shape,Sh.size]
 | .ref t i q c,cs,h=>by
   simp only [zT] at h
   obtain ⟨b,off,arr,ty,fz,rfl,_⟩:=h
   simp [V.shape,Sh.size]
 | .sl t h lo xs,cs,hh=>by
   simp only [zT] at hh
   obtain ⟨a,cap,rfl,_⟩:=hh
   simp [V.shape,Sh.size]
theorem UG (w S τ):∀ (vs:List V) (cs:List Value),yC w S τ vs cs→cs.length=Sh.sizes (V.shapes vs)
 | [],cs,h=>by simp only [yC] at h;subst h;simp [V.shapes,Sh.sizes]
 | v :: vs,cs,h=>by
   simp only [yC] at h
   have h1:=vE w S τ v _ h.1
   have h2:=UG w S τ vs _ h.2
   simp only [V.shapes,Sh.sizes]
   simp at h1 h2
   omega
end
mutual
theorem Ko:∀ v:V,v.shape.flat=true→v.toks=[]
 | .dead,h=>by simp [V.shape,Sh.flat] at h
 | .gone,h=>by simp [V.shape,Sh.flat] at h
 | .lin v,h=>by simpa [V.toks] using Ko v (by simpa [V.shape] using h)
 | .tup _,h=>by simp [V.shape,Sh.flat] at h
 | .fn _ _ _,h=>by simp [V.shape,Sh.flat] at h
 | .ref ..,h=>by simp [V.shape,Sh.flat] at h
 | .sl ..,h=>by simp [V.shape,Sh.flat] at h
 | .int ..,_=>by simp [V.toks]
 | .bool ..,_=>by simp [V.toks]
 | .agg vs,h=>by simpa [V.toks] using KX vs (by simpa [V.shape,Sh.flat] using h)
theorem KX:∀ vs:List V,Sh.flats (V.shapes vs)=true→V.tokss vs=[]
 | [],_=>by simp [V.tokss]
 | v :: vs,h=>by
   simp only [V.shapes,Sh.flats,zp] at h
   simp [V.tokss,Ko v h.1,KX vs h.2]
end
theorem X3 {h:Sh} (hf:h.flat=true):∀ xs:List V,(∀ x∈xs,x.shape=h)→Sh.flats (V.shapes xs)=true
 | [],_=>rfl
 | x :: xs,hx=>by
   simp only [V.shapes,Sh.flats,zp]
   exact ⟨by rw [hx x (by simp)];exact hf,X3 hf xs fun y hy=>hx y (by simp [hy])⟩
theorem Xj {h:Sh} (hf:h.flat=true) (xs:List V) (hx:∀ x∈xs,x.shape=h):V.tokss xs=[]:=KX xs (X3 hf xs hx)
theorem Wt {t h lo xs} (hx:∀ x∈xs,V.shape x=h) (ht:t≠.sh):∀ k∈V.tokss xs,k∈(V.sl t h lo xs).toks:=by
 intro k hk
 by_cases hf:h.flat=true
 · rw [Xj hf xs hx] at hk;cases hk
 · cases t <;> simp_all [V.toks]
mutual
theorem wy {w w':World} {S S':Nat→Prop} {τ τ':Tok→Blk} (hS:∀ b,S b→S' b∧w'.heap[b]?=w.heap[b]?) :
    ∀ (v:V) (cs:List Value),zT w S τ v cs→(∀ k∈v.toks,τ' k=τ k∧w'.heap[(τ k).b]?=w.heap[(τ k).b]?)→zT w' S' τ' v cs
 | .dead,cs,h,_=>by simpa [zT] using h
 | .gone,cs,h,_=>by simp [zT] at h
 | .lin _,cs,h,_=>by simp [zT] at h
 | .tup _,cs,h,_=>by simp [zT] at h
 | .int ..,cs,h,_=>by simpa [zT] using h
 | .bool ..,cs,h,_=>by simpa [zT] using h
 | .agg vs,cs,h,hk=>by
   simp only [zT] at h ⊢
   exact vf hS vs cs h (by simpa [V.toks] using hk)
 | .fn f fs env,cs,h,hk=>by
   simp only [zT] at h ⊢
   obtain ⟨fst,cap,hc,h1,h2⟩:=h
   exact ⟨fst,cap,hc,Mm hS fs _ h1 (fun k hk'=>hk k (by simp [V.toks,hk'])),vf hS env _ h2 (fun k hk'=>hk k (by simp [V.toks,hk']))⟩
 | .ref t i q c,cs,h,hk=>by
   simp only [zT] at h ⊢
   obtain ⟨b,off,arr,ty,fz,hc,hw,hp,hle,hsh,hr⟩:=h
   cases t with
   | nl=>exact hp.elim
   | sh=>
     refine ⟨b,off,arr,ty,fz,hc,?_,?_,hle,hsh,?_⟩
     · rw [(hS b hp).2];exact hw
     · exact (hS b hp).1
     · exact wy hS c _ hr (by rw [hsh rfl];intro k hk;cases hk)
   | «at» r p=>
     have h0:=hk (.at r p) (by simp [V.toks])
     refine ⟨b,off,arr,ty,fz,hc,?_,?_,hle,hsh,?_⟩
     · rw [← hp.1,h0.2,hp.1];exact hw
     · simp only [Wp,h0.1];exact hp
     · exact wy hS c _ hr fun k hk'=>hk k (by simp [V.toks,hk'])
   | bx r=>
     have h0:=hk (.bx r) (by simp [V.toks])
     refine ⟨b,off,arr,ty,fz,hc,?_,?_,hle,hsh,?_⟩
     · rw [← hp.1,h0.2,hp.1];exact hw
     · simp only [Wp,h0.1];exact hp
     · exact wy hS c _ hr fun k hk'=>hk k (by simp [V.toks,hk'])
 | .sl t h lo xs,cs,hh,hk=>by
   simp only [zT] at hh ⊢
   obtain ⟨a,cap,hc,hle,hx,hsh,hh⟩:=hh
   refine ⟨a,cap,hc,hle,hx,hsh,hh.imp id ?_⟩
   rintro ⟨b,off,arr,ty,fz,ha,hw,hp,hle',hr⟩
   cases t with
   | nl=>exact hp.elim
   | sh=>
     refine ⟨b,off,arr,ty,fz,ha,?_,(hS b hp).1,hle',?_⟩
     · rw [(hS b hp).2];exact hw
     · exact vf hS xs _ hr (by rw [hsh rfl];intro k hk;cases hk)
   | «at» r p=>
     have h0:=hk (.at r p) (by simp [V.toks])
     refine ⟨b,off,arr,ty,fz,ha,?_,?_,hle',?_⟩
     · rw [← hp.1,h0.2,hp.1];exact hw
     · simp only [KU,h0.1];exact hp
     · exact vf hS xs _ hr fun k hk'=>hk k (Wt hx (by simp) k hk')
   | bx r=>
     have h0:=hk (.bx r) (by simp [V.toks])
     refine ⟨b,off,arr,ty,fz,ha,?_,?_,hle',?_⟩
     · rw [← hp.1,h0.2,hp.1];exact hw
     · simp only [KU,h0.1];exact hp
     · exact vf hS xs _ hr fun k hk'=>hk k (Wt hx (by simp) k hk')
theorem vf {w w':World} {S S':Nat→Prop} {τ τ':Tok→Blk} (hS:∀ b,S b→S' b∧w'.heap[b]?=w.heap[b]?) :
    ∀ (vs:List V) (cs:List Value),yC w S τ vs cs→(∀ k∈V.tokss vs,τ' k=τ k∧w'.heap[(τ k).b]?=w.heap[(τ k).b]?)→yC w' S' τ' vs cs
 | [],cs,h,_=>by simpa [yC] using h
 | v :: vs,cs,h,hk=>by
   simp only [yC] at h ⊢
   exact ⟨wy hS v _ h.1 fun k hk'=>hk k (by simp [V.tokss,hk']),vf hS vs _ h.2 fun k hk'=>hk k (by simp [V.tokss,hk'])⟩
theorem Mm {w w':World} {S S':Nat→Prop} {τ τ':Tok→Blk} (hS:∀ b,S b→S' b∧w'.heap[b]?=w.heap[b]?) :
    ∀ (vs:List V) (cs:List Value),vY w S τ vs cs→(∀ k∈V.tokss vs,τ' k=τ k∧w'.heap[(τ k).b]?=w.heap[(τ k).b]?)→vY w' S' τ' vs cs
 | [],cs,h,_=>by simpa [vY] using h
 | v :: vs,cs,h,hk=>by
   simp only [vY] at h ⊢
   obtain ⟨c,cs',e,h1,h2,h3⟩:=h
   exact ⟨c,cs',e,wy hS v _ h1 fun k hk'=>hk k (by simp [V.tokss,hk']),h2,Mm hS vs _ h3 fun k hk'=>hk k (by simp [V.tokss,hk'])⟩
end
mutual
theorem WP (f:Tok→Option Tok):∀ v:V,(V.map f v).shape=v.shape
 | .dead | .gone | .int .. | .bool _ | .tup _ | .fn ..=>by simp [V.map,V.shape]
 | .lin v=>by simp [V.map,V.shape,WP f v]
 | .agg vs=>by simp [V.map,V.shape,Mi f vs]
 | .ref t i q c=>by
   cases t <;> simp only [V.map] <;> (try split) <;> simp [V.shape]
 | .sl t h lo xs=>by
   cases t <;> simp only [V.map] <;> (try split) <;> simp [V.shape]
theorem Mi (f:Tok→Option Tok):∀ vs:List V,V.shapes (V.maps f vs)=V.shapes vs
 | []=>rfl
 | v :: vs=>by simp [V.maps,V.shapes,WP f v,Mi f vs]
end
theorem zgN (f:Tok→Option Tok) (v:V):(V.map f v).isAgg=v.isAgg:=by
 cases v with
 | sl t g lo xs=>cases t <;> simp only [V.map] <;> (try split) <;> rfl
 | ref t i q c=>cases t <;> simp only [V.map] <;> (try split) <;> rfl
 | _=>rfl
mutual
theorem zb9 (f:Tok→Option Tok):∀ v:V,v.shape.flat=true→V.map f v=v
 | .dead,_=>rfl
 | .gone,_=>rfl
 | .lin v,h=>by simp only [V.map];rw [zb9 f v (by simpa [V.shape] using h)]
 | .tup _,h=>by simp [V.shape,Sh.flat] at h
 | .fn _ _ _,h=>by simp [V.shape,Sh.flat] at h
 | .ref ..,h=>by simp [V.shape,Sh.flat] at h
 | .sl ..,h=>by simp [V.shape,Sh.flat] at h
 | .int ..,_=>rfl
 | .bool ..,_=>rfl
 | .agg vs,h=>by simp only [V.map];rw [LL f vs (by simpa [V.shape,Sh.flat] using h)]
theorem LL (f:Tok→Option Tok):∀ vs:List V,Sh.flats (V.shapes vs)=true→V.maps f vs=vs
 | [],_=>rfl
 | v :: vs,h=>by
   simp only [V.shapes,Sh.flats,zp] at h
   simp only [V.maps]
   rw [zb9 f v h.1,LL f vs h.2]
end
theorem zap (f:Tok→Option Tok) {h:Sh} {xs:List V} (hx:∀ x∈xs,x.shape=h):(if h.flat then xs else V.maps f xs)=V.maps f xs:=by
 split
 · rename_i hf;rw [LL f xs (X3 hf xs hx)]
 · rfl
theorem zar (f:Tok→Option Tok):∀ xs,V.maps f xs=xs.map (V.map f)
 | []=>rfl
 | x :: xs=>by simp [V.maps,zar f xs]
theorem NO {f:Tok→Option Tok} {h:Sh} {xs:List V} (hx:∀ x∈xs,x.shape=h):∀ x∈V.maps f xs,x.shape=h:=by
 intro x hm
 rw [zar] at hm
 obtain ⟨y,hy,rfl⟩:=yX.1 hm
 rw [WP];exact hx y hy
def MC (f:Tok→Option Tok) (τ τ':Tok→Blk):Prop:=
 (∀ r p k,f (.at r p)=some k→τ' k=τ (.at r p)∧∃ r' p',k = .at r' p') ∧
 (∀ r k,f (.bx r)=some k→τ' k=τ (.bx r)∧∃ r',k = .bx r')∧f .nl=some .nl
mutual
theorem W9 {w:World} {S:Nat→Prop} {τ τ':Tok→Blk} {f:Tok→Option Tok} (hf:MC f τ τ') :
    ∀ (v:V) (cs:List Value),zT w S τ v cs→zT w S τ' (V.map f v) cs
 | .dead,cs,h=>by simpa [zT,V.map] using h
 | .gone,cs,h=>by simp [zT] at h
 | .lin _,cs,h=>by simp [zT] at h
 | .tup _,cs,h=>by simp [zT] at h
 | .int ..,cs,h=>by simpa [zT,V.map] using h
 | .bool ..,cs,h=>by simpa [zT,V.map] using h
 | .agg vs,cs,h=>by
   simp only [zT,V.map] at h ⊢
   exact WB hf vs cs h
 | .fn g fs env,cs,h=>by
   simp only [zT,V.map] at h ⊢
   obtain ⟨fst,cap,hc,h1,h2⟩:=h
   exact ⟨fst,cap,hc,QP hf fs _ h1,WB hf env _ h2⟩
 | .ref t i q c,cs,hh=>by
   have hh0:=hh
   simp only [zT] at hh
   obtain ⟨b,off,arr,ty,fz,hc,hw,hp,hle,hsh,hr⟩:=hh
   cases t with
   | nl=>exact hp.elim
   | sh=>
     simp only [V.map,zT]
     exact ⟨b,off,arr,ty,fz,hc,hw,hp,hle,fun _=>hsh rfl,wy (w:=w) (w':=w) (S:=S) (S':=S) (fun b h=>⟨h,rfl⟩) c _ hr (by rw [hsh rfl];intro k hk;cases hk)⟩
   | «at» r p=>
     simp only [V.map]
     cases hk:f (.at r p) with
     | none=>exact X0 (Ld hh0)
     | some k=>
       obtain ⟨h1,r',p',rfl⟩:=hf.1 r p k hk
       simp only [zT,WP]
       refine ⟨b,off,arr,ty,fz,hc,hw,?_,hle,by simp,W9 hf c _ hr⟩
       simp only [Wp,h1];exact hp
   | bx r=>
     simp only [V.map]
     cases hk:f (.bx r) with
     | none=>exact X0 (Ld hh0)
     | some k=>
       obtain ⟨h1,r',rfl⟩:=hf.2.1 r k hk
       simp only [zT,WP]
       refine ⟨b,off,arr,ty,fz,hc,hw,?_,hle,by simp,W9 hf c _ hr⟩
       simp only [Wp,h1];exact hp
 | .sl t h lo xs,cs,hh=>by
   have hh0:=hh
   simp only [zT] at hh
   obtain ⟨a,cap,hc,hle,hx,hsh,hh⟩:=hh
   have hlen:(V.maps f xs).length=xs.length:=by rw [zar];simp
   cases t with
   | sh=>
     simp only [V.map,zT]
     refine ⟨a,cap,hc,hle,hx,fun _=>hsh rfl,hh.imp id ?_⟩
     rintro ⟨b,off,arr,ty,fz,ha,hw,hp,hle',hr⟩
     exact ⟨b,off,arr,ty,fz,ha,hw,hp,hle',vf (w:=w) (w':=w) (S:=S) (S':=S) (fun b h=>⟨h,rfl⟩) xs _ hr (by rw [hsh rfl];intro k hk;cases hk)⟩
   | nl=>
     simp only [V.map,hf.2.2,zap f hx,zT]
     refine ⟨a,cap,by rw [hlen];exact hc,by rw [hlen];exact hle,NO hx,by simp,.inl ?_⟩
     rcases hh with h0 | ⟨b,off,arr,ty,fz,ha,hw,hp,_⟩
     · exact h0
     · exact hp.elim
   | «at» r p=>
     simp only [V.map,zap f hx]
     cases hk:f (.at r p) with
     | none=>exact X0 (MJ hh0)
     | some k=>
       obtain ⟨h1,r',p',rfl⟩:=hf.1 r p k hk
       simp only [zT]
       refine ⟨a,cap,by rw [hlen];exact hc,by rw [hlen];exact hle,NO hx,by simp,hh.imp id ?_⟩
       rintro ⟨b,off,arr,ty,fz,ha,hw,hp,hle',hr⟩
       refine ⟨b,off,arr,ty,fz,ha,hw,?_,hle',by rw [hlen];exact WB hf xs _ hr⟩
       simp only [KU,h1];exact hp
   | bx r=>
     simp only [V.map,zap f hx]
     cases hk:f (.bx r) with
     | none=>exact X0 (MJ hh0)
     | some k=>
       obtain ⟨h1,r',rfl⟩:=hf.2.1 r k hk
       simp only [zT]
       refine ⟨a,cap,by rw [hlen];exact hc,by rw [hlen];exact hle,NO hx,by simp,hh.imp id ?_⟩
       rintro ⟨b,off,arr,ty,fz,ha,hw,hp,hle',hr⟩
       refine ⟨b,off,arr,ty,fz,ha,hw,?_,hle',by rw [hlen];exact WB hf xs _ hr⟩
       simp only [KU,h1];exact hp
theorem WB {w:World} {S:Nat→Prop} {τ τ':Tok→Blk} {f:Tok→Option Tok} (hf:MC f τ τ') :
    ∀ (vs:List V) (cs:List Value),yC w S τ vs cs→yC w S τ' (V.maps f vs) cs
 | [],cs,h=>by simpa [yC,V.maps] using h
 | v :: vs,cs,h=>by
   simp only [yC,V.maps,WP] at h ⊢
   exact ⟨W9 hf v _ h.1,WB hf vs _ h.2⟩
theorem QP {w:World} {S:Nat→Prop} {τ τ':Tok→Blk} {f:Tok→Option Tok} (hf:MC f τ τ') :
    ∀ (vs:List V) (cs:List Value),vY w S τ vs cs→vY w S τ' (V.maps f vs) cs
 | [],cs,h=>by simpa [vY,V.maps] using h
 | v :: vs,cs,h=>by
   simp only [vY,V.maps,zgN] at h ⊢
   obtain ⟨c,cs',e,h1,h2,h3⟩:=h
   exact ⟨c,cs',e,W9 hf v _ h1,h2,QP hf vs _ h3⟩
end
mutual
theorem Xf:∀ v:V,v.erase.shape=v.shape
 | .dead | .gone | .int .. | .bool _ | .tup _ | .fn .. | .ref .. | .sl ..=>by simp [V.erase,V.shape]
 | .lin v=>by simp [V.erase,V.shape,Xf v]
 | .agg vs=>by simp [V.erase,V.shape,KJ vs]
theorem KJ:∀ vs:List V,V.shapes (V.erases vs)=V.shapes vs
 | []=>rfl
 | v :: vs=>by simp [V.erases,V.shapes,Xf v,KJ vs]
end
theorem zdc (v:V) (h:∀ u,v≠.lin u):v.erase.isAgg=v.isAgg:=by
 cases v with
 | lin u=>exact absurd rfl (h u)
 | _=>rfl
mutual
theorem XQ:∀ v:V,v.erase.toks=[]
 | .dead | .gone | .int .. | .bool _=>by simp [V.erase,V.toks]
 | .tup vs=>by simpa [V.erase,V.toks] using Zr vs
 | .fn _ fs vs=>by simp [V.erase,V.toks,Zr fs,Zr vs]
 | .agg vs=>by simpa [V.erase,V.toks] using Zr vs
 | .ref ..=>by simp [V.erase,V.toks]
 | .sl ..=>by simp [V.erase,V.toks]
 | .lin v=>by simpa [V.erase,V.toks] using XQ v
theorem Zr:∀ vs:List V,V.tokss (V.erases vs)=[]
 | []=>rfl
 | v :: vs=>by simp [V.erases,V.tokss,XQ v,Zr vs]
end
theorem Me:∀ xs,V.erases xs=xs.map V.erase
 | []=>rfl
 | x :: xs=>by simp [V.erases,Me xs]
theorem zdE {h:Sh} {xs:List V} (hx:∀ x∈xs,x.shape=h):∀ x∈V.erases xs,x.shape=h:=by
 intro x hm
 rw [Me] at hm
 obtain ⟨y,hy,rfl⟩:=yX.1 hm
 rw [Xf];exact hx y hy
theorem Np {h:Sh} {xs:List V} (hx:∀ x∈xs,x.shape=h):V.tokss (if h.flat then xs else V.erases xs)=[]:=by
 split
 · rename_i hf;exact Xj hf xs hx
 · exact Zr xs
theorem N8 {h:Sh} {xs:List V} (hx:∀ x∈xs,x.shape=h):∀ x∈(if h.flat then xs else V.erases xs),x.shape=h:=by
 split
 · exact hx
 · exact zdE hx
theorem Up {h:Sh} {xs:List V}:(if h.flat then xs else V.erases xs).length=xs.length:=by
 split
 · rfl
 · rw [Me];simp
mutual
theorem uU {w:World} {S S':Nat→Prop} {τ τ':Tok→Blk} (hS:∀ b,S b→S' b) :
    ∀ (v:V) (cs:List Value),zT w S τ v cs→(∀ k∈v.toks,S' (τ k).b)→zT w S' τ' v.erase cs
 | .dead,cs,h,_=>by simpa [zT,V.erase] using h
 | .gone,cs,h,_=>by simp [zT] at h
 | .lin _,cs,h,_=>by simp [zT] at h
 | .tup _,cs,h,_=>by simp [zT] at h
 | .int ..,cs,h,_=>by simpa [zT,V.erase] using h
 | .bool ..,cs,h,_=>by simpa [zT,V.erase] using h
 | .agg vs,cs,h,hk=>by
   simp only [zT,V.erase] at h ⊢
   exact X6 hS vs cs h (by simpa [V.toks] using hk)
 | .fn g fs env,cs,h,hk=>by
   simp only [zT,V.erase] at h ⊢
   obtain ⟨fst,cap,hc,h1,h2⟩:=h
   exact ⟨fst,cap,hc,Mo hS fs _ h1 (fun k hk'=>hk k (by simp [V.toks,hk'])),X6 hS env _ h2 (fun k hk'=>hk k (by simp [V.toks,hk']))⟩
 | .ref t i q c,cs,hh,hk=>by
   simp only [zT] at hh
   obtain ⟨b,off,arr,ty,fz,hc,hw,hp,hle,hsh,hr⟩:=hh
   simp only [V.erase,zT,Xf]
   have hb:S' b∧∀ k∈c.toks,S' (τ k).b:=by
    cases t with
    | nl=>exact hp.elim
    | sh=>exact ⟨hS b hp,by rw [hsh rfl];intro k hk;cases hk⟩
    | «at» r p=>exact ⟨hp.1 ▸ hk (.at r p) (by simp [V.toks]),fun k hk'=>hk k (by simp [V.toks,hk'])⟩
    | bx r=>exact ⟨hp.1 ▸ hk (.bx r) (by simp [V.toks]),fun k hk'=>hk k (by simp [V.toks,hk'])⟩
   exact ⟨b,off,arr,ty,fz,hc,hw,hb.1,hle,fun _=>XQ c,uU hS c _ hr hb.2⟩
 | .sl t h lo xs,cs,hh,hk=>by
   simp only [zT] at hh
   obtain ⟨a,cap,hc,hle,hx,hsh,hh⟩:=hh
   simp only [V.erase,zT]
   refine ⟨a,cap,by rw [Up];exact hc,by rw [Up];exact hle,N8 hx,fun _=>Np hx,hh.imp id ?_⟩
   rintro ⟨b,off,arr,ty,fz,ha,hw,hp,hle',hr⟩
   have hb:S' b∧∀ k∈V.tokss xs,S' (τ k).b:=by
    cases t with
    | nl=>exact hp.elim
    | sh=>exact ⟨hS b hp,by rw [hsh rfl];intro k hk;cases hk⟩
    | «at» r p=>exact ⟨hp.1 ▸ hk (.at r p) (by simp [V.toks]),fun k hk'=>hk k (Wt hx (by simp) k hk')⟩
    | bx r=>exact ⟨hp.1 ▸ hk (.bx r) (by simp [V.toks]),fun k hk'=>hk k (Wt hx (by simp) k hk')⟩
   refine ⟨b,off,arr,ty,fz,ha,hw,hb.1,hle',?_⟩
   rw [Up]
   split
   · rename_i hf
     have hz:V.tokss xs=[]:=Xj hf xs hx
     exact vf (w:=w) (fun b h=>⟨hS b h,rfl⟩) xs _ hr (by rw [hz];intro k hk;cases hk)
   · exact X6 hS xs _ hr hb.2
theorem X6 {w:World} {S S':Nat→Prop} {τ τ':Tok→Blk} (hS:∀ b,S b→S' b) :
    ∀ (vs:List V) (cs:List Value),yC w S τ vs cs→(∀ k∈V.tokss vs,S' (τ k).b)→yC w S' τ' (V.erases vs) cs
 | [],cs,h,_=>by simpa [yC,V.erases] using h
 | v :: vs,cs,h,hk=>by
   simp only [yC,V.erases,Xf] at h ⊢
   exact ⟨uU hS v _ h.1 fun k hk'=>hk k (by simp [V.tokss,hk']),X6 hS vs _ h.2 fun k hk'=>hk k (by simp [V.tokss,hk'])⟩
theorem Mo {w:World} {S S':Nat→Prop} {τ τ':Tok→Blk} (hS:∀ b,S b→S' b) :
    ∀ (vs:List V) (cs:List Value),vY w S τ vs cs→(∀ k∈V.tokss vs,S' (τ k).b)→vY w S' τ' (V.erases vs) cs
 | [],cs,h,_=>by simpa [vY,V.erases] using h
 | .lin _ :: _,_,h,_=>by
   simp only [vY] at h
   obtain ⟨c,cs',e,h1,_⟩:=h
   simp [zT] at h1
 | v :: vs,cs,h,hk=>by
   have hv:=hk
   simp only [vY,V.erases] at h ⊢
   obtain ⟨c,cs',e,h1,h2,h3⟩:=h
   refine ⟨c,cs',e,uU hS v _ h1 fun k hk'=>hk k (by simp [V.tokss,hk']),?_,Mo hS vs _ h3 fun k hk'=>hk k (by simp [V.tokss,hk'])⟩
   rw [zdc v (by rintro u rfl;simp [zT] at h1)];exact h2
end
mutual
theorem UV (K:List Tok):∀ v:V,(V.frz K v).shape=v.shape
 | .dead | .gone | .int .. | .bool _ | .tup _ | .fn ..=>by simp [V.frz,V.shape]
 | .lin v=>by simp [V.frz,V.shape,UV K v]
 | .agg vs=>by simp [V.frz,V.shape,Mu K vs]
 | .ref t i q c=>by
   cases t <;> simp only [V.frz] <;> (repeat' split) <;> simp [V.shape]
 | .sl t h lo xs=>by
   cases t <;> simp only [V.frz] <;> (repeat' split) <;> simp [V.shape]
theorem Mu (K:List Tok):∀ vs:List V,V.shapes (V.frzs K vs)=V.shapes vs
 | []=>rfl
 | v :: vs=>by simp [V.frzs,V.shapes,UV K v,Mu K vs]
end
theorem zgJ (K:List Tok) (v:V):(V.frz K v).isAgg=v.isAgg:=by
 cases v with
 | sl t g lo xs=>cases t <;> simp only [V.frz] <;> (repeat' split) <;> rfl
 | ref t i q c=>cases t <;> simp only [V.frz] <;> (repeat' split) <;> rfl
 | _=>rfl
mutual
theorem zcy (K:List Tok):∀ v:V,v.shape.flat=true→V.frz K v=v
 | .dead,_=>rfl
 | .gone,_=>rfl
 | .lin v,h=>by simp only [V.frz];rw [zcy K v (by simpa [V.shape] using h)]
 | .tup _,h=>by simp [V.shape,Sh.flat] at h
 | .fn _ _ _,h=>by simp [V.shape,Sh.flat] at h
 | .ref ..,h=>by simp [V.shape,Sh.flat] at h
 | .sl ..,h=>by simp [V.shape,Sh.flat] at h
 | .int ..,_=>rfl
 | .bool ..,_=>rfl
 | .agg vs,h=>by simp only [V.frz];rw [L6 K vs (by simpa [V.shape,Sh.flat] using h)]
theorem L6 (K:List Tok):∀ vs:List V,Sh.flats (V.shapes vs)=true→V.frzs K vs=vs
 | [],_=>rfl
 | v :: vs,h=>by
   simp only [V.shapes,Sh.flats,zp] at h
   simp only [V.frzs]
   rw [zcy K v h.1,L6 K vs h.2]
end
theorem zlg (K:List Tok) {h:Sh} {xs:List V} (hx:∀ x∈xs,x.shape=h):(if h.flat then xs else V.frzs K xs)=V.frzs K xs:=by
 split
 · rename_i hf;rw [L6 K xs (X3 hf xs hx)]
 · rfl
theorem zai (K:List Tok):∀ xs,V.frzs K xs=xs.map (V.frz K)
 | []=>rfl
 | x :: xs=>by simp [V.frzs,zai K xs]
theorem zjL {K:List Tok} {h:Sh} {xs:List V} (hx:∀ x∈xs,x.shape=h):∀ x∈V.frzs K xs,x.shape=h:=by
 intro x hm
 rw [zai] at hm
 obtain ⟨y,hy,rfl⟩:=yX.1 hm
 rw [UV];exact hx y hy
theorem zgW (K:List Tok) {t:Tok} {h:Sh} {lo:Nat} {xs:List V} (hx:∀ x∈xs,x.shape=h) (ht:t≠.sh) :
    V.frz K (.sl t h lo xs)=if K.contains t then (if (V.tokss xs).all K.contains then .sl .sh h 0 (if h.flat then xs else V.erases xs) else .dead) else .sl t h lo (V.frzs K xs):=by
 have e:=zlg K hx
 cases t with
 | sh=>exact absurd rfl ht
 | _=>
   simp only [V.frz,e]
   by_cases hf:h.flat=true
   · simp [hf,Xj hf xs hx]
   · simp [hf]
mutual
theorem U0 {w:World} {S S':Nat→Prop} {τ:Tok→Blk} {K:List Tok} (hS:∀ b,S b→S' b) (hK:∀ k,K.contains k=true→S' (τ k).b) (hn:K.contains .nl=false) :
    ∀ (v:V) (cs:List Value),zT w S τ v cs→zT w S' τ (V.frz K v) cs
 | .dead,cs,h=>by simpa [zT,V.frz] using h
 | .gone,cs,h=>by simp [zT] at h
 | .lin _,cs,h=>by simp [zT] at h
 | .tup _,cs,h=>by simp [zT] at h
 | .int ..,cs,h=>by simpa [zT,V.frz] using h
 | .bool ..,cs,h=>by simpa [zT,V.frz] using h
 | .agg vs,cs,h=>by
   simp only [zT,V.frz] at h ⊢
   exact UB hS hK hn vs cs h
 | .fn g fs env,cs,h=>by
   simp only [zT,V.frz] at h ⊢
   obtain ⟨fst,cap,hc,h1,h2⟩:=h
   exact ⟨fst,cap,hc,QS hS hK hn fs _ h1,UB hS hK hn env _ h2⟩
 | .ref t i q c,cs,hh=>by
   have hh0:=hh
   simp only [zT] at hh
   obtain ⟨b,off,arr,ty,fz,hc,hw,hp,hle,hsh,hr⟩:=hh
   by_cases ht:t = .sh
   · subst ht
     simp only [V.frz]
     exact wy (w:=w) (fun b h=>⟨hS b h,rfl⟩) _ _ hh0 (by simp [V.toks])
   · have e:V.frz K (.ref t i q c)=if K.contains t then (if (V.toks c).all K.contains then .ref .sh 0 [] (V.erase c) else .dead) else .ref t i q (V.frz K c):=by
      cases t <;> simp_all [V.frz]
     rw [e]
     split
     · rename_i hk
       split
       · rename_i ha
         have hall:∀ k∈c.toks,K.contains k=true:=by simpa using ha
         have:=uU (τ':=τ) hS (.ref t i q c) cs hh0 (by
          intro k hk'
          have:k=t∨k∈c.toks:=by cases t <;> simp_all [V.toks]
          rcases this with rfl | h
          · exact hK _ hk
          · exact hK _ (hall k h))
         simpa [V.erase] using this
       · exact X0 (Ld hh0)
     · simp only [zT,UV]
       refine ⟨b,off,arr,ty,fz,hc,hw,?_,hle,fun h=>absurd h ht,U0 hS hK hn c _ hr⟩
       cases t with
       | sh=>exact absurd rfl ht
       | _=>exact hp
 | .sl t h lo xs,cs,hh=>by
   have hh0:=hh
   simp only [zT] at hh
   obtain ⟨a,cap,hc,hle,hx,hsh,hh⟩:=hh
   by_cases ht:t = .sh
   · subst ht
     simp only [V.frz]
     exact wy (w:=w) (fun b h=>⟨hS b h,rfl⟩) _ _ hh0 (by simp [V.toks])
   · rw [zgW K hx ht]
     split
     · rename_i hk
       split
       · rename_i ha
         have hall:∀ k∈V.tokss xs,K.contains k=true:=by simpa using ha
         have:=uU (τ':=τ) hS (.sl t h lo xs) cs hh0 (by
          intro k hk'
          have:k=t∨k∈V.tokss xs:=by
           by_cases hf:h.flat=true
           · cases t <;> simp_all [V.toks]
           · cases t <;> simp_all [V.toks]
          rcases this with rfl | h
          · exact hK _ hk
          · exact hK _ (hall k h))
         simpa [V.erase] using this
       · exact X0 (MJ hh0)
     · have hlen:(V.frzs K xs).length=xs.length:=by rw [zai];simp
       simp only [zT]
       refine ⟨a,cap,by rw [hlen];exact hc,by rw [hlen];exact hle,zjL hx,fun h=>absurd h ht,hh.imp id ?_⟩
       rintro ⟨b,off,arr,ty,fz,ha,hw,hp,hle',hr⟩
       refine ⟨b,off,arr,ty,fz,ha,hw,?_,hle',by rw [hlen];exact UB hS hK hn xs _ hr⟩
       cases t with
       | sh=>exact absurd rfl ht
       | _=>exact hp
theorem UB {w:World} {S S':Nat→Prop} {τ:Tok→Blk} {K:List Tok} (hS:∀ b,S b→S' b) (hK:∀ k,K.contains k=true→S' (τ k).b) (hn:K.contains .nl=false) :
    ∀ (vs:List V) (cs:List Value),yC w S τ vs cs→yC w S' τ (V.frzs K vs) cs
 | [],cs,h=>by simpa [yC,V.frzs] using h
 | v :: vs,cs,h=>by
   simp only [yC,V.frzs,UV] at h ⊢
   exact ⟨U0 hS hK hn v _ h.1,UB hS hK hn vs _ h.2⟩
theorem QS {w:World} {S S':Nat→Prop} {τ:Tok→Blk} {K:List Tok} (hS:∀ b,S b→S' b) (hK:∀ k,K.contains k=true→S' (τ k).b) (hn:K.contains .nl=false) :
    ∀ (vs:List V) (cs:List Value),vY w S τ vs cs→vY w S' τ (V.frzs K vs) cs
 | [],cs,h=>by simpa [vY,V.frzs] using h
 | v :: vs,cs,h=>by
   simp only [vY,V.frzs,zgJ] at h ⊢
   obtain ⟨c,cs',e,h1,h2,h3⟩:=h
   exact ⟨c,cs',e,U0 hS hK hn v _ h1,h2,QS hS hK hn vs _ h3⟩
end
mutual
theorem NG:∀ (h:Sh) (q:List Nat) (o:Nat) (g:Sh),h.off q=some (o,g)→o + g.size≤h.size
 | .s,[],o,g,e=>by simp [Sh.off] at e;obtain ⟨rfl,rfl⟩:=e;simp
 | .p,[],o,g,e=>by simp [Sh.off] at e;obtain ⟨rfl,rfl⟩:=e;simp
 | .ag hs,[],o,g,e=>by simp [Sh.off] at e;obtain ⟨rfl,rfl⟩:=e;simp
 | .s,_ :: _,o,g,e=>by simp [Sh.off] at e
 | .p,_ :: _,o,g,e=>by simp [Sh.off] at e
 | .ag hs,f :: q,o,g,e=>by
   simp only [Sh.off] at e
   simpa [Sh.size] using zbF hs f q o g e
theorem zbF:∀ (hs:List Sh) (f:Nat) (q:List Nat) (o:Nat) (g:Sh),Sh.offs hs f q=some (o,g)→o + g.size≤Sh.sizes hs
 | [],_,_,o,g,e=>by simp [Sh.offs] at e
 | h :: hs,0,q,o,g,e=>by
   simp only [Sh.offs] at e
   have:=NG h q o g e
   simp only [Sh.sizes];omega
 | h :: hs,f + 1,q,o,g,e=>by
   simp only [Sh.offs,ye] at e
   obtain ⟨⟨o',g'⟩,e',e2⟩:=e
   simp at e2
   obtain ⟨rfl,rfl⟩:=e2
   have:=zbF hs f q o' g' e'
   simp only [Sh.sizes];omega
end
mutual
theorem NV:∀ (h:Sh) (q:List Nat) (o1:Nat) (hs:List Sh) (f o2:Nat) (g:Sh),h.off q=some (o1,.ag hs)→Sh.offs hs f []=some (o2,g)→h.off (q++[f])=some (o1 + o2,g)
 | .s,[],o1,hs,f,o2,g,e,_=>by simp [Sh.off] at e
 | .p,[],o1,hs,f,o2,g,e,_=>by simp [Sh.off] at e
 | .ag hs',[],o1,hs,f,o2,g,e,e2=>by
   simp [Sh.off] at e
   obtain ⟨rfl,rfl⟩:=e
   simp [Sh.off,e2]
 | .s,_ :: _,o1,hs,f,o2,g,e,_=>by simp [Sh.off] at e
 | .p,_ :: _,o1,hs,f,o2,g,e,_=>by simp [Sh.off] at e
 | .ag hs',f' :: q,o1,hs,f,o2,g,e,e2=>by
   simp only [Sh.off,XE] at e ⊢
   exact Mv hs' f' q o1 hs f o2 g e e2
theorem Mv:∀ (hs':List Sh) (f':Nat) (q:List Nat) (o1:Nat) (hs:List Sh) (f o2:Nat) (g:Sh),Sh.offs hs' f' q=some (o1,.ag hs)→Sh.offs hs f []=some (o2,g)→Sh.offs hs' f' (q++[f])=some (o1 + o2,g)
 | [],_,_,_,_,_,_,_,e,_=>by simp [Sh.offs] at e
 | h :: hs',0,q,o1,hs,f,o2,g,e,e2=>by
   simp only [Sh.offs] at e ⊢
   exact NV h q o1 hs f o2 g e e2
 | h :: hs',f' + 1,q,o1,hs,f,o2,g,e,e2=>by
   simp only [Sh.offs,ye] at e ⊢
   obtain ⟨⟨o',g'⟩,e',e3⟩:=e
   simp at e3
   obtain ⟨rfl,rfl⟩:=e3
   exact ⟨_,Mv hs' f' q o' hs f o2 g e' e2,by simp [Nat.add_assoc]⟩
end
def Zy (cs:List Value) (o:Nat) (us:List Value):List Value:=cs.take o++us++cs.drop (o + us.length)
theorem XT {cs:List Value} {o:Nat} {us:List Value} (h:o + us.length≤cs.length):(Zy cs o us).length=cs.length:=by
 simp [Zy];omega
theorem Jq (cs us:List Value) (h:us.length=cs.length):Zy cs 0 us=us:=by
 simp [Zy,h]
theorem W2 (cs:List Value) (o:Nat) (us:List Value) (h:o + us.length≤cs.length) (k:Nat) :
    (Zy cs o us)[k]?=if o≤k∧k < o + us.length then us[k - o]? else cs[k]?:=by
 simp only [Zy,List.getElem?_append,List.length_take,uc,List.getElem?_take,List.getElem?_drop]
 by_cases h1:k < o
 · rw [if_pos (by omega),if_pos (by omega),if_pos h1,zy (by omega)]
 · by_cases h2:k < o + us.length
   · rw [if_pos (by omega),zy (by omega),if_pos (by omega)]
     congr 1;omega
   · rw [zy (by omega),zy (by omega)]
     congr 1;omega
theorem U9 (L:List Value) (s n k:Nat):((L.drop s).take n)[k]?=if k < n then L[s + k]? else none:=by
 simp [List.getElem?_take,List.getElem?_drop]
theorem ZS (L us:List Value) (s n p:Nat) (hp:s≤p) (hn:p + us.length≤s + n) (hL:s + n≤L.length) :
    ((Zy L p us).drop s).take n=Zy ((L.drop s).take n) (p - s) us:=by
 apply List.ext_getElem?
 intro k
 rw [U9,W2 _ _ _ (by omega),W2 _ _ _ (by simp;omega),U9]
 by_cases h:k < n
 · rw [if_pos h,if_pos h]
   by_cases h2:p≤s + k∧s + k < p + us.length
   · rw [if_pos h2,if_pos (by omega)];congr 1;omega
   · rw [zy h2,zy (by omega)]
 · rw [zy h,zy h,zy (by omega)]
theorem Zh (L us:List Value) (s n p:Nat) (ho:p + us.length≤s∨s + n≤p) (hL:p + us.length≤L.length) :
    ((Zy L p us).drop s).take n=(L.drop s).take n:=by
 apply List.ext_getElem?
 intro k
 rw [U9,U9,W2 _ _ _ hL]
 by_cases h:k < n
 · rw [if_pos h,if_pos h,zy (by omega)]
 · rw [zy h,zy h]
mutual
theorem zdn (w S τ):∀ (x:V) (q:List Nat) (u:V) (cs us:List Value) (o:Nat) (g:Sh),zT w S τ x cs→x.shape.off q=some (o,g)→zT w S τ u us→u.shape=g →
    zT w S τ (x.setP q u) (Zy cs o us)∧(x.setP q u).shape=x.shape
 | x,[],u,cs,us,o,g,hx,ho,hu,hg=>by
   have e:x.shape.off []=some (0,x.shape):=by cases x.shape <;> simp [Sh.off]
   rw [e] at ho
   simp at ho
   obtain ⟨rfl,rfl⟩:=ho
   have l1:=vE _ _ _ _ _ hx
   have l2:=vE _ _ _ _ _ hu
   have e2:x.setP [] u=u:=by cases x <;> simp [V.setP]
   rw [e2,Jq _ _ (by rw [l1,l2,hg])]
   exact ⟨hu,hg⟩
 | .agg vs,f :: q,u,cs,us,o,g,hx,ho,hu,hg=>by
   simp only [V.setP,zT,V.shape] at hx ⊢
   simp only [V.shape,Sh.off] at ho
   have:=UF w S τ vs f q u cs us o g hx ho hu hg
   exact ⟨this.1,by rw [this.2]⟩
 | .dead,_ :: _,_,_,_,_,_,_,ho,_,_=>by simp [V.shape,Sh.off] at ho
 | .gone,_ :: _,_,_,_,_,_,_,ho,_,_=>by simp [V.shape,Sh.off] at ho
 | .lin _,_ :: _,_,_,_,_,_,hx,_,_,_=>by simp [zT] at hx
 | .tup _,_ :: _,_,_,_,_,_,hx,_,_,_=>by simp [zT] at hx
 | .int ..,_ :: _,_,_,_,_,_,_,ho,_,_=>by simp [V.shape,Sh.off] at ho
 | .bool ..,_ :: _,_,_,_,_,_,_,ho,_,_=>by simp [V.shape,Sh.off] at ho
 | .fn ..,_ :: _,_,_,_,_,_,_,ho,_,_=>by simp [V.shape,Sh.off] at ho
 | .ref ..,_ :: _,_,_,_,_,_,_,ho,_,_=>by simp [V.shape,Sh.off] at ho
 | .sl ..,_ :: _,_,_,_,_,_,_,ho,_,_=>by simp [V.shape,Sh.off] at ho
theorem UF (w S τ):∀ (vs:List V) (f:Nat) (q:List Nat) (u:V) (cs us:List Value) (o:Nat) (g:Sh),yC w S τ vs cs→Sh.offs (V.shapes vs) f q=some (o,g)→zT w S τ u us→u.shape=g →
    yC w S τ (V.setPs vs f q u) (Zy cs o us)∧V.shapes (V.setPs vs f q u)=V.shapes vs
 | [],_,_,_,_,_,_,_,_,ho,_,_=>by simp [V.shapes,Sh.offs] at ho
 | v :: vs,0,q,u,cs,us,o,g,hx,ho,hu,hg=>by
   simp only [V.shapes,Sh.offs] at ho
   simp only [yC] at hx
   have h1:=zdn w S τ v q u _ us o g hx.1 ho hu hg
   have l1:=vE _ _ _ _ _ hx.1
   have l2:=vE _ _ _ _ _ hu
   have lo:=NG _ _ _ _ ho
   have l3:=UG _ _ _ _ _ hx.2
   simp at l1 l3
   simp only [V.setPs,yC,V.shapes,h1.2,and_true]
   refine ⟨?_,?_⟩
   · have:=ZS cs us 0 v.shape.size o (by omega) (by rw [l2,hg];omega) (by omega)
     simp at this
     rw [this];exact h1.1
   · have hlen:(Zy cs o us).length=cs.length:=XT (by rw [l2,hg];omega)
     have:=Zh cs us v.shape.size (cs.length - v.shape.size) o (.inl (by rw [l2,hg];omega)) (by rw [l2,hg];omega)
     rw [List.take_of_length_le (by simp [hlen]),List.take_of_length_le (by simp)] at this
     rw [this];exact hx.2
 | v :: vs,f + 1,q,u,cs,us,o,g,hx,ho,hu,hg=>by
   simp only [V.shapes,Sh.offs,ye] at ho
   obtain ⟨⟨o',g'⟩,e',e2⟩:=ho
   simp at e2
   obtain ⟨rfl,rfl⟩:=e2
   simp only [yC] at hx
   have h1:=UF w S τ vs f q u _ us o' g' hx.2 e' hu hg
   have l1:=vE _ _ _ _ _ hx.1
   have l2:=vE _ _ _ _ _ hu
   have lo:=zbF _ _ _ _ _ e'
   have l3:=UG _ _ _ _ _ hx.2
   simp at l1 l3
   simp only [V.setPs,yC,V.shapes,h1.2,and_true]
   refine ⟨?_,?_⟩
   · have:=Zh cs us 0 v.shape.size (v.shape.size + o') (.inr (by omega)) (by rw [l2,hg];omega)
     simp at this
     rw [this];exact hx.1
   · have hlen:(Zy cs (v.shape.size + o') us).length=cs.length:=XT (by rw [l2,hg];omega)
     have:=ZS cs us v.shape.size (cs.length - v.shape.size) (v.shape.size + o') (by omega) (by rw [l2,hg];omega) (by omega)
     rw [List.take_of_length_le (by simp [hlen]),List.take_of_length_le (by simp)] at this
     rw [this,Nat.add_sub_cancel_left];exact h1.1
end
mutual
theorem Y9 (t i q u):∀ v:V,(V.mut t i q u v).shape=v.shape
 | .dead | .gone | .int .. | .bool _ | .tup _ | .fn ..=>by simp [V.mut,V.shape]
 | .lin v=>by simp [V.mut,V.shape,Y9 t i q u v]
 | .agg vs=>by simp [V.mut,V.shape,Ml t i q u vs]
 | .ref t' i' q' c=>by
   cases t' <;> simp only [V.mut] <;> (repeat' split) <;> simp [V.shape]
 | .sl t' h lo xs=>by
   cases t' <;> simp only [V.mut] <;> (repeat' split) <;> simp [V.shape]
theorem Ml (t i q u):∀ vs:List V,V.shapes (V.muts t i q u vs)=V.shapes vs
 | []=>rfl
 | v :: vs=>by simp [V.muts,V.shapes,Y9 t i q u v,Ml t i q u vs]
end
theorem zgk (t i q u) (v:V):(V.mut t i q u v).isAgg=v.isAgg:=by
 cases v with
 | sl t' g lo xs=>cases t' <;> simp only [V.mut] <;> (repeat' split) <;> rfl
 | ref t' i' q' c=>cases t' <;> simp only [V.mut] <;> (repeat' split) <;> rfl
 | _=>rfl
mutual
theorem zb7 (t i q u):∀ v:V,v.shape.flat=true→V.mut t i q u v=v
 | .dead,_=>rfl
 | .gone,_=>rfl
 | .lin v,h=>by simp only [V.mut];rw [zb7 t i q u v (by simpa [V.shape] using h)]
 | .tup _,h=>by simp [V.shape,Sh.flat] at h
 | .fn _ _ _,h=>by simp [V.shape,Sh.flat] at h
 | .ref ..,h=>by simp [V.shape,Sh.flat] at h
 | .sl ..,h=>by simp [V.shape,Sh.flat] at h
 | .int ..,_=>rfl
 | .bool ..,_=>rfl
 | .agg vs,h=>by simp only [V.mut];rw [LQ t i q u vs (by simpa [V.shape,Sh.flat] using h)]
theorem LQ (t i q u):∀ vs:List V,Sh.flats (V.shapes vs)=true→V.muts t i q u vs=vs
 | [],_=>rfl
 | v :: vs,h=>by
   simp only [V.shapes,Sh.flats,zp] at h
   simp only [V.muts]
   rw [zb7 t i q u v h.1,LQ t i q u vs h.2]
end
theorem zlP (t i q u) {h:Sh} {xs:List V} (hx:∀ x∈xs,x.shape=h):(if h.flat then xs else V.muts t i q u xs)=V.muts t i q u xs:=by
 split
 · rename_i hf;rw [LQ t i q u xs (X3 hf xs hx)]
 · rfl
theorem zbe (t i q u):∀ xs,V.muts t i q u xs=xs.map (V.mut t i q u)
 | []=>rfl
 | x :: xs=>by simp [V.muts,zbe t i q u xs]
theorem UX {t i q u} {h:Sh} {xs:List V} (hx:∀ x∈xs,x.shape=h):∀ x∈V.muts t i q u xs,x.shape=h:=by
 intro x hm
 rw [zbe] at hm
 obtain ⟨y,hy,rfl⟩:=yX.1 hm
 rw [Y9];exact hx y hy
theorem U3:∀ xs:List V,V.shapes xs=xs.map V.shape
 | []=>rfl
 | x :: xs=>by simp [V.shapes,U3 xs]
theorem Us {xs ys:List V} {h:Sh} (e:V.shapes ys=V.shapes xs) (hx:∀ x∈xs,x.shape=h):∀ y∈ys,y.shape=h:=by
 intro y hy
 rw [U3,U3] at e
 have:y.shape∈xs.map V.shape:=by rw [← e];exact List.mem_map_of_mem hy
 obtain ⟨x,hx',e'⟩:=yX.1 this
 rw [← e'];exact hx x hx'
theorem YD {h:Sh}:∀ xs:List V,(∀ x∈xs,x.shape=h)→Sh.sizes (V.shapes xs)=xs.length * h.size
 | [],_=>by simp [V.shapes,Sh.sizes]
 | x :: xs,hx=>by
   simp only [V.shapes,Sh.sizes,hx x (by simp),YD xs fun y hy=>hx y (by simp [hy]),ZK]
   rw [Nat.add_mul];omega
theorem U4 {h:Sh} {q:List Nat} {o:Nat} {g:Sh} (ho:h.off q=some (o,g)):∀ (xs:List V) (k:Nat),(∀ x∈xs,x.shape=h)→k < xs.length→Sh.offs (V.shapes xs) k q=some (k * h.size + o,g)
 | [],k,_,hk=>by simp at hk
 | x :: xs,0,hx,_=>by simp [V.shapes,Sh.offs,hx x (by simp),ho]
 | x :: xs,k + 1,hx,hk=>by
   simp only [V.shapes,Sh.offs,U4 ho xs k (fun y hy=>hx y (by simp [hy])) (by simpa using hk),hx x (by simp),yU]
   simp only [zn,Prod.mk.injEq,and_true]
   rw [Nat.add_mul];omega
theorem Nb:∀ (xs:List V) (k:Nat) (q:List Nat) (u:V),xs.length≤k→V.setPs xs k q u=xs
 | [],_,_,_,_=>by simp [V.setPs]
 | x :: xs,0,_,_,h=>by simp at h
 | x :: xs,k + 1,q,u,h=>by simp only [V.setPs];rw [Nb xs k q u (by simpa using h)]
theorem Q0:∀ (xs:List V) (k:Nat) (q:List Nat) (u:V),(V.setPs xs k q u).length=xs.length
 | [],_,_,_=>by simp [V.setPs]
 | x :: xs,0,_,_=>by simp [V.setPs]
 | x :: xs,k + 1,q,u=>by simp [V.setPs,Q0 xs k q u]
structure Wr (w w':World) (b off:Nat) (us:List Value):Prop where
 old:∃ arr ty arr',w.heap[b]?=some (.cells arr ty (0,0))∧w'.heap[b]?=some (.cells arr' ty (0,0))∧arr'.toList=Zy arr.toList off us∧off + us.length≤arr.size
 other:∀ k,k≠b→w'.heap[k]?=w.heap[k]?
theorem Jl (h:Sh):h.off []=some (0,h):=by cases h <;> simp [Sh.off]
mutual
theorem WV {w w':World} {S:Nat→Prop} {τ:Tok→Blk} {b off:Nat} {us:List Value} (hw:Wr w w' b off us) {t:Tok} (hown:t≠.sh∧t≠.nl) (hb:(τ t).b=b) (hS:¬ S b)
    {i:Nat} {q:List Nat} {o:Nat} {g:Sh} (ho:(τ t).h.off q=some (o,g)) (hoff:off=(τ t).base + i * (τ t).h.size + o) {u:V} (hu:zT w' S τ u us) (hg:u.shape=g) :
    ∀ (v:V) (cs:List Value),zT w S τ v cs→(∀ k∈v.toks,k≠t→(τ k).b≠b)→zT w' S τ (V.mut t i q u v) cs
 | .dead,cs,h,_=>by simpa [zT,V.mut] using h
 | .gone,cs,h,_=>by simp [zT] at h
 | .lin _,cs,h,_=>by simp [zT] at h
 | .tup _,cs,h,_=>by simp [zT] at h
 | .int ..,cs,h,_=>by simpa [zT,V.mut] using h
 | .bool ..,cs,h,_=>by simpa [zT,V.mut] using h
 | .agg vs,cs,h,hk=>by
   simp only [zT,V.mut] at h ⊢
   exact XW hw hown hb hS ho hoff hu hg vs cs h (by simpa [V.toks] using hk)
 | .fn f fs env,cs,h,hk=>by
   simp only [zT,V.mut] at h ⊢
   obtain ⟨fst,cap,hc,h1,h2⟩:=h
   exact ⟨fst,cap,hc,Q1 hw hown hb hS ho hoff hu hg fs _ h1 (fun k hk'=>hk k (by simp [V.toks,hk'])),XW hw hown hb hS ho hoff hu hg env _ h2 (fun k hk'=>hk k (by simp [V.toks,hk']))⟩
 | .ref t' i' q' c,cs,hh,hk=>by
   have hh0:=hh
   simp only [zT] at hh
   obtain ⟨b',off',arr,ty,fz,hc,hw0,hp,hle,hsh,hr⟩:=hh
   have hlu:=vE _ _ _ _ _ hu
   by_cases ht:t' = .sh
   · subst ht
     simp only [V.mut]
     exact wy (fun b'' h=>⟨h,hw.other b'' (fun e=>hS (e ▸ h))⟩) _ _ hh0 (by simp [V.toks])
   · have htk:∀ k∈c.toks,k≠t→(τ k).b≠b:=fun k hk'=>hk k (by cases t' <;> simp_all [V.toks])
     have htt:t'≠.nl→t'≠t→b'≠b:=by
      intro hn hne e
      refine hk t' (by cases t' <;> simp_all [V.toks]) hne ?_
      cases t' with
      | sh=>exact absurd rfl ht
      | nl=>exact absurd rfl hn
      | _=>rw [hp.1];exact e
     have hnl:t'≠.nl:=by rintro rfl;exact hp.elim
     have ih:=WV hw hown hb hS ho hoff hu hg c _ hr htk
     have e:V.mut t i q u (.ref t' i' q' c)=if t=t'∧i=i' then (if q'=[]∨q'=q then .ref t' i' q' (V.seen q' q u (V.mut t i q u c)) else .dead) else .ref t' i' q' (V.mut t i q u c):=by
      cases t' <;> simp_all [V.mut]
     rw [e]
     have hplace:Wp S τ t' i' q' c.shape b' off' fz→(τ t').b=b'∧fz=(0,0)∧∃ o',(τ t').h.off q'=some (o',c.shape)∧off'=(τ t').base + i' * (τ t').h.size + o':=by
      intro hp
      cases t' with
      | sh=>exact absurd rfl ht
      | nl=>exact absurd rfl hnl
      | _=>exact hp
     have hplace':∀ (g':Sh) fz',((τ t').b=b'∧fz'=(0,0)∧∃ o',(τ t').h.off q'=some (o',g')∧off'=(τ t').base + i' * (τ t').h.size + o')→Wp S τ t' i' q' g' b' off' fz':=by
      intro g' fz' hp
      cases t' with
      | sh=>exact absurd rfl ht
      | nl=>exact absurd rfl hnl
      | _=>exact hp
     obtain ⟨hp1,hp2,o',hp3,hp4⟩:=hplace hp
     obtain ⟨arr0,ty0,arr',hwo,hwn,hsp,hfit⟩:=hw.old
     by_cases hbb:b'=b
     · have htt':t'=t:=by
        by_cases e:t'=t
        · exact e
        · exact absurd hbb (htt hnl e)
       subst htt'
       subst hbb
       rw [hwo] at hw0
       simp only [zn,Obj.cells.injEq] at hw0
       obtain ⟨rfl,rfl,hfz⟩:=hw0
       have hsz:arr'.size=arr0.size:=by
        have:=XT (cs:=arr0.toList) (o:=off) (us:=us) (by simpa using hfit)
        rw [← hsp] at this;simpa using this
       have hole:=NG _ _ _ _ ho
       have hole':=NG _ _ _ _ hp3
       by_cases hi:i=i'
       · subst hi
         simp only [true_and,z5]
         by_cases hq:q'=[]
         · subst hq
           rw [Jl] at hp3
           simp at hp3
           obtain ⟨rfl,hgs⟩:=hp3
           simp only [true_or,z5,zT,V.seen]
           have hset:=zdn w' S τ _ q u _ us o g ih (by rw [Y9,← hgs];exact ho) hu hg
           rw [Y9] at hset
           refine ⟨b',off',arr',ty0,(0,0),hc,hwn,hplace' _ _ ⟨hp1,rfl,0,?_,hp4⟩,?_,fun h=>absurd h ht,?_⟩
           · rw [Jl,hset.2,hgs]
           · rw [hset.2,hsz];exact hle
           · rw [hset.2,hsp,ZS _ _ _ _ _ (by omega) (by rw [hlu,hg,← hgs];omega) (by simpa using hle)]
             have:off - off'=o:=by omega
             rw [this];exact hset.1
         · by_cases hqq:q'=q
           · subst hqq
             rw [ho] at hp3
             simp at hp3
             obtain ⟨rfl,hgs⟩:=hp3
             simp only [or_true,z5,zT,V.seen,hq,yb]
             refine ⟨b',off',arr',ty0,(0,0),hc,hwn,hplace' _ _ ⟨hp1,rfl,o,?_,hp4⟩,?_,fun h=>absurd h ht,?_⟩
             · rw [ho,hg]
             · rw [hg,hgs,hsz];exact hle
             · have:off'=off:=by omega
               rw [hsp,this,ZS _ _ _ _ _ (xF _) (by rw [hlu];omega) (by rw [← this];rw [hg,hgs];simpa using hle),Nat.sub_self,
                Jq _ _ (by rw [hlu];simp;rw [hg,hgs];omega)]
               exact hu
           · simp only [hq,hqq,or_self,yb]
             exact X0 (Ld hh0)
       · simp only [hi,and_false,yb,zT,Y9]
         refine ⟨b',off',arr',ty0,(0,0),hc,hwn,hplace' _ _ ⟨hp1,rfl,o',hp3,hp4⟩,by rw [hsz];exact hle,fun h=>absurd h ht,?_⟩
         rw [hsp,Zh _ _ _ _ _ ?_ (by simpa using hfit)]
         · exact ih
         · rw [hlu,hg,hp4,hoff]
           rcases Nat.lt_or_gt_of_ne hi with h | h
           · left
             have:(i + 1) * (τ t').h.size≤i' * (τ t').h.size:=ud _ h
             rw [Nat.add_mul] at this;omega
           · right
             have:(i' + 1) * (τ t').h.size≤i * (τ t').h.size:=ud _ h
             rw [Nat.add_mul] at this;omega
     · have hne:¬ (t=t'∧i=i'):=by
        rintro ⟨rfl,_⟩
        exact hbb (by rw [← hp1,hb])
       simp only [hne,yb,zT,Y9]
       exact ⟨b',off',arr,ty,fz,hc,by rw [hw.other b' hbb];exact hw0,hp,hle,fun h=>absurd h ht,ih⟩
 | .sl t' h lo xs,cs,hh,hk=>by
   have hh0:=hh
   simp only [zT] at hh
   obtain ⟨a,cap,hc,hle,hx,hsh,hh⟩:=hh
   have hlu:=vE _ _ _ _ _ hu
   by_cases ht:t' = .sh
   · subst ht
     simp only [V.mut]
     exact wy (fun b'' h=>⟨h,hw.other b'' (fun e=>hS (e ▸ h))⟩) _ _ hh0 (by simp [V.toks])
   · have htk:∀ k∈V.tokss xs,k≠t→(τ k).b≠b:=fun k hk'=>hk k (Wt hx ht k hk')
     have hlen:(V.muts t i q u xs).length=xs.length:=by rw [zbe];simp
     by_cases hbx:t=t'∧∃ r,t' = .bx r
     · obtain ⟨rfl,r,rfl⟩:=hbx
       simp only [V.mut,z5]
       exact X0 (MJ hh0)
     · have e:V.mut t i q u (.sl t' h lo xs)=if t=t' then .sl t' h lo (if lo≤i then V.setPs (V.muts t i q u xs) (i - lo) q u else V.muts t i q u xs) else .sl t' h lo (V.muts t i q u xs):=by
        have hm:=zlP t i q u hx
        cases t' with
        | sh=>exact absurd rfl ht
        | bx r=>
          by_cases htb:t = .bx r
          · exact absurd ⟨htb,r,rfl⟩ hbx
          · simp only [V.mut,hm,zy htb]
        | _=>simp only [V.mut,hm]
       rw [e]
       obtain ⟨arr0,ty0,arr',hwo,hwn,hsp,hfit⟩:=hw.old
       have hole:=NG _ _ _ _ ho
       split
       · rename_i htt
         subst htt
         have hset:∀ (ys:List V),ys=(if lo≤i then V.setPs (V.muts t i q u xs) (i - lo) q u else V.muts t i q u xs)→ys.length=xs.length:=by
          intro ys e;subst e;split
          · rw [Q0,hlen]
          · exact hlen
         simp only [zT]
         refine ⟨a,cap,by rw [hset _ rfl];exact hc,by rw [hset _ rfl];exact hle,?_,fun h=>absurd h ht,?_⟩
         · split
           · rename_i hlo
             by_cases hki:i - lo < xs.length
             · -- the shapes stay
               intro y hy
               rcases hh with h0 | ⟨b',off',arr,ty,fz,ha,hw0,hp,hle',hr⟩
               · omega
               · have ih:=XW hw hown hb hS ho hoff hu hg xs _ hr htk
                 have hpl:(τ t).h=h:=by
                  cases t with
                  | sh=>exact absurd rfl ht
                  | nl=>exact hp.elim
                  | bx r=>exact absurd ⟨rfl,r,rfl⟩ hbx
                  | «at» r p=>exact hp.2.1
                 have hs:=UF w' S τ _ (i - lo) q u _ us _ g ih (U4 (by rw [← hpl];exact ho) _ _ (UX hx) (by rw [hlen];exact hki)) hu hg
                 exact Us hs.2 (UX hx) y hy
             · rw [Nb _ _ _ _ (by rw [hlen];omega)];exact UX hx
           · exact UX hx
         · refine hh.imp id ?_
           rintro ⟨b',off',arr,ty,fz,ha,hw0,hp,hle',hr⟩
           have ih:=XW hw hown hb hS ho hoff hu hg xs _ hr htk
           have hpl:(τ t).b=b'∧(τ t).h=h∧off'=(τ t).base + lo * h.size∧fz=(0,0):=by
            cases t with
            | sh=>exact absurd rfl ht
            | nl=>exact hp.elim
            | bx r=>exact absurd ⟨rfl,r,rfl⟩ hbx
            | «at» r p=>exact hp
           obtain ⟨hp1,hp2,hp4,hp5⟩:=hpl
           have hbb:b'=b:=by rw [← hp1,hb]
           subst hbb
           rw [hwo] at hw0
           simp only [zn,Obj.cells.injEq] at hw0
           obtain ⟨rfl,rfl,hfz⟩:=hw0
           have hsz:arr'.size=arr0.size:=by
            have:=XT (cs:=arr0.toList) (o:=off) (us:=us) (by simpa using hfit)
            rw [← hsp] at this;simpa using this
           rw [hp2] at ho hoff hole
           refine ⟨b',off',arr',ty0,(0,0),ha,hwn,?_,by rw [hsz];exact hle',?_⟩
           · cases t with
             | sh=>exact absurd rfl ht
             | nl=>exact hp.elim
             | bx r=>exact absurd ⟨rfl,r,rfl⟩ hbx
             | «at» r p=>exact ⟨hp1,hp2,hp4,rfl⟩
           · rw [hset _ rfl,hsp]
             have hxl:xs.length * h.size≤cap * h.size:=ud _ hle
             split
             · rename_i hlo
               by_cases hki:i - lo < xs.length
               · have hs:=UF w' S τ _ (i - lo) q u _ us _ g ih (U4 ho _ _ (UX hx) (by rw [hlen];exact hki)) hu hg
                 have hm:(i - lo + 1) * h.size≤xs.length * h.size:=ud _ hki
                 have hm2:i * h.size=lo * h.size + (i - lo) * h.size:=by rw [← Nat.add_mul];congr 1;omega
                 rw [Nat.add_mul] at hm
                 rw [ZS _ _ _ _ _ (by omega) (by rw [hlu,hg];omega) (by simp;omega)]
                 have:off - off'=(i - lo) * h.size + o:=by omega
                 rw [this];exact hs.1
               · rw [Nb _ _ _ _ (by rw [hlen];omega)]
                 have hm:(lo + xs.length) * h.size≤i * h.size:=ud _ (by omega)
                 rw [Nat.add_mul] at hm
                 rw [Zh _ _ _ _ _ (.inr (by omega)) (by simpa using hfit)]
                 exact ih
             · rename_i hlo
               have hm:(i + 1) * h.size≤lo * h.size:=ud _ (by omega)
               rw [Nat.add_mul] at hm
               rw [Zh _ _ _ _ _ (.inl (by rw [hlu,hg];omega)) (by simpa using hfit)]
               exact ih
       · rename_i htt
         simp only [zT]
         refine ⟨a,cap,by rw [hlen];exact hc,by rw [hlen];exact hle,UX hx,fun h=>absurd h ht,hh.imp id ?_⟩
         rintro ⟨b',off',arr,ty,fz,ha,hw0,hp,hle',hr⟩
         have ih:=XW hw hown hb hS ho hoff hu hg xs _ hr htk
         have hbb:b'≠b:=by
          intro e2
          refine hk t' (by cases t' <;> simp_all [V.toks,KU]) (fun e=>htt e.symm) ?_
          cases t' with
          | sh=>exact absurd rfl ht
          | nl=>exact hp.elim
          | _=>rw [hp.1];exact e2
         exact ⟨b',off',arr,ty,fz,ha,by rw [hw.other b' hbb];exact hw0,hp,hle',by rw [hlen];exact ih⟩
theorem XW {w w':World} {S:Nat→Prop} {τ:Tok→Blk} {b off:Nat} {us:List Value} (hw:Wr w w' b off us) {t:Tok} (hown:t≠.sh∧t≠.nl) (hb:(τ t).b=b) (hS:¬ S b)
    {i:Nat} {q:List Nat} {o:Nat} {g:Sh} (ho:(τ t).h.off q=some (o,g)) (hoff:off=(τ t).base + i * (τ t).h.size + o) {u:V} (hu:zT w' S τ u us) (hg:u.shape=g) :
    ∀ (vs:List V) (cs:List Value),yC w S τ vs cs→(∀ k∈V.tokss vs,k≠t→(τ k).b≠b)→yC w' S τ (V.muts t i q u vs) cs
 | [],cs,h,_=>by simpa [yC,V.muts] using h
 | v :: vs,cs,h,hk=>by
   simp only [yC,V.muts,Y9] at h ⊢
   exact ⟨WV hw hown hb hS ho hoff hu hg v _ h.1 fun k hk'=>hk k (by simp [V.tokss,hk']),XW hw hown hb hS ho hoff hu hg vs _ h.2 fun k hk'=>hk k (by simp [V.tokss,hk'])⟩
theorem Q1 {w w':World} {S:Nat→Prop} {τ:Tok→Blk} {b off:Nat} {us:List Value} (hw:Wr w w' b off us) {t:Tok} (hown:t≠.sh∧t≠.nl) (hb:(τ t).b=b) (hS:¬ S b)
    {i:Nat} {q:List Nat} {o:Nat} {g:Sh} (ho:(τ t).h.off q=some (o,g)) (hoff:off=(τ t).base + i * (τ t).h.size + o) {u:V} (hu:zT w' S τ u us) (hg:u.shape=g) :
    ∀ (vs:List V) (cs:List Value),vY w S τ vs cs→(∀ k∈V.tokss vs,k≠t→(τ k).b≠b)→vY w' S τ (V.muts t i q u vs) cs
 | [],cs,h,_=>by simpa [vY,V.muts] using h
 | v :: vs,cs,h,hk=>by
   simp only [vY,V.muts,zgk] at h ⊢
   obtain ⟨c,cs',e,h1,h2,h3⟩:=h
   exact ⟨c,cs',e,WV hw hown hb hS ho hoff hu hg v _ h1 fun k hk'=>hk k (by simp [V.tokss,hk']),h2,Q1 hw hown hb hS ho hoff hu hg vs _ h3 fun k hk'=>hk k (by simp [V.tokss,hk'])⟩
end
mutual
theorem Uc (f:Tok→Option Tok) (hn:f .nl=some .nl):∀ v:V,∀ k∈(V.map f v).toks,∃ k0∈v.toks,f k0=some k
 | .dead,k,h | .gone,k,h | .int ..,k,h | .bool _,k,h=>by simp [V.map,V.toks] at h
 | .lin v,k,h=>by simpa [V.toks] using Uc f hn v k (by simpa [V.map,V.toks] using h)
 | .tup vs,k,h=>by simpa [V.toks] using XD f hn vs k (by simpa [V.map,V.toks] using h)
 | .agg vs,k,h=>by simpa [V.toks] using XD f hn vs k (by simpa [V.map,V.toks] using h)
 | .fn g fs vs,k,h=>by
   simp only [V.map,V.toks,zO] at h ⊢
   rcases h with h | h
   · obtain ⟨k0,hk,e⟩:=XD f hn fs k h
     exact ⟨k0,.inl hk,e⟩
   · obtain ⟨k0,hk,e⟩:=XD f hn vs k h
     exact ⟨k0,.inr hk,e⟩
 | .ref t i q c,k,h=>by
   have ih:=Uc f hn c
   cases t with
   | sh=>simp [V.map,V.toks] at h
   | nl=>
     simp only [V.map,hn,V.toks] at h ⊢
     exact ih k h
   | «at» r p=>
     simp only [V.map] at h
     split at h
     · rename_i t' ht'
       have:k=t'∨k∈(V.map f c).toks:=by cases t' <;> simp_all [V.toks]
       rcases this with rfl | h2
       · exact ⟨.at r p,by simp [V.toks],ht'⟩
       · obtain ⟨k0,hk,e⟩:=ih k h2
         exact ⟨k0,by simp [V.toks,hk],e⟩
     · simp [V.toks] at h
   | bx r=>
     simp only [V.map] at h
     split at h
     · rename_i t' ht'
       have:k=t'∨k∈(V.map f c).toks:=by cases t' <;> simp_all [V.toks]
       rcases this with rfl | h2
       · exact ⟨.bx r,by simp [V.toks],ht'⟩
       · obtain ⟨k0,hk,e⟩:=ih k h2
         exact ⟨k0,by simp [V.toks,hk],e⟩
     · simp [V.toks] at h
 | .sl t g lo xs,k,h=>by
   have ih:=XD f hn xs
   cases t with
   | sh=>simp [V.map,V.toks] at h
   | nl=>
     simp only [V.map,hn,V.toks] at h ⊢
     by_cases hg:g.flat=true
     · simp [hg] at h
     · simp only [hg,yD,yb] at h ⊢
       exact ih k h
   | «at» r p=>
     simp only [V.map] at h
     split at h
     · rename_i t' ht'
       have:k=t'∨(g.flat=false∧k∈V.tokss (V.maps f xs)):=by
        by_cases hg:g.flat=true <;> cases t' <;> simp_all [V.toks]
       rcases this with rfl | ⟨hg,h2⟩
       · exact ⟨.at r p,by simp [V.toks],ht'⟩
       · obtain ⟨k0,hk,e⟩:=ih k h2
         exact ⟨k0,by simp [V.toks,hk,hg],e⟩
     · simp [V.toks] at h
   | bx r=>
     simp only [V.map] at h
     split at h
     · rename_i t' ht'
       have:k=t'∨(g.flat=false∧k∈V.tokss (V.maps f xs)):=by
        by_cases hg:g.flat=true <;> cases t' <;> simp_all [V.toks]
       rcases this with rfl | ⟨hg,h2⟩
       · exact ⟨.bx r,by simp [V.toks],ht'⟩
       · obtain ⟨k0,hk,e⟩:=ih k h2
         exact ⟨k0,by simp [V.toks,hk,hg],e⟩
     · simp [V.toks] at h
theorem XD (f:Tok→Option Tok) (hn:f .nl=some .nl):∀ vs:List V,∀ k∈V.tokss (V.maps f vs),∃ k0∈V.tokss vs,f k0=some k
 | [],k,h=>by simp [V.maps,V.tokss] at h
 | v :: vs,k,h=>by
   simp only [V.maps,V.tokss,zO] at h ⊢
   rcases h with h | h
   · obtain ⟨k0,hk,e⟩:=Uc f hn v k h
     exact ⟨k0,.inl hk,e⟩
   · obtain ⟨k0,hk,e⟩:=XD f hn vs k h
     exact ⟨k0,.inr hk,e⟩
end
mutual
theorem YE (K:List Tok):∀ v:V,∀ k∈(V.frz K v).toks,k∈v.toks∧K.contains k=false
 | .dead,k,h | .gone,k,h | .int ..,k,h | .bool _,k,h=>by simp [V.frz,V.toks] at h
 | .lin v,k,h=>by simpa [V.toks] using YE K v k (by simpa [V.frz,V.toks] using h)
 | .tup vs,k,h=>by simpa [V.toks] using Yl K vs k (by simpa [V.frz,V.toks] using h)
 | .agg vs,k,h=>by simpa [V.toks] using Yl K vs k (by simpa [V.frz,V.toks] using h)
 | .fn g fs vs,k,h=>by
   simp only [V.frz,V.toks,zO] at h ⊢
   rcases h with h | h
   · exact ⟨.inl (Yl K fs k h).1,(Yl K fs k h).2⟩
   · exact ⟨.inr (Yl K vs k h).1,(Yl K vs k h).2⟩
 | .ref t i q c,k,h=>by
   have ih:=YE K c k
   by_cases ht:t = .sh
   · subst ht;simp [V.frz,V.toks] at h
   · have e:V.frz K (.ref t i q c)=if K.contains t then (if (V.toks c).all K.contains then .ref .sh 0 [] (V.erase c) else .dead) else .ref t i q (V.frz K c):=by
      cases t <;> simp_all [V.frz]
     rw [e] at h
     split at h
     · split at h <;> simp [V.toks] at h
     · rename_i hk
       have:k=t∨k∈(V.frz K c).toks:=by cases t <;> simp_all [V.toks]
       rcases this with rfl | h2
       · refine ⟨?_,by simpa using hk⟩
         cases k with
         | sh=>exact absurd rfl ht
         | nl=>simp only [V.toks] at h ⊢;exact (ih h).1
         | _=>simp [V.toks]
       · exact ⟨by cases t <;> simp_all [V.toks],(ih h2).2⟩
 | .sl t g lo xs,k,h=>by
   have ih:=Yl K xs k
   by_cases ht:t = .sh
   · subst ht;simp [V.frz,V.toks] at h
   · have e:V.frz K (.sl t g lo xs)=if K.contains t then (if g.flat then .sl .sh g 0 xs else if (V.tokss xs).all K.contains then .sl .sh g 0 (V.erases xs) else .dead) else .sl t g lo (if g.flat then xs else V.frzs K xs):=by
      cases t <;> simp_all [V.frz]
     rw [e] at h
     split at h
     · split at h
       · simp [V.toks] at h
       · split at h <;> simp [V.toks] at h
     · rename_i hk
       have:k=t∨(g.flat=false∧k∈V.tokss (V.frzs K xs)):=by
        by_cases hg:g.flat=true <;> cases t <;> simp_all [V.toks]
       rcases this with rfl | ⟨hg,h2⟩
       · refine ⟨?_,by simpa using hk⟩
         cases k with
         | sh=>exact absurd rfl ht
         | nl=>
           by_cases hg:g.flat=true
           · simp [V.toks,hg] at h
           · simp only [V.toks,hg,yD,yb] at h ⊢;exact (ih h).1
         | _=>simp [V.toks]
       · exact ⟨by cases t <;> simp_all [V.toks],(ih h2).2⟩
theorem Yl (K:List Tok):∀ vs:List V,∀ k∈V.tokss (V.frzs K vs),k∈V.tokss vs∧K.contains k=false
 | [],k,h=>by simp [V.frzs,V.tokss] at h
 | v :: vs,k,h=>by
   simp only [V.frzs,V.tokss,zO] at h ⊢
   rcases h with h | h
   · exact ⟨.inl (YE K v k h).1,(YE K v k h).2⟩
   · exact ⟨.inr (Yl K vs k h).1,(Yl K vs k h).2⟩
end
mutual
theorem QU:∀ (v:V) (q:List Nat) (u:V),∀ k∈(v.setP q u).toks,k∈v.toks∨k∈u.toks
 | v,[],u,k,h=>by
   have:v.setP [] u=u:=by cases v <;> simp [V.setP]
   rw [this] at h;exact .inr h
 | .agg vs,f :: q,u,k,h=>by simpa [V.toks] using Jg vs f q u k (by simpa [V.setP,V.toks] using h)
 | .dead,_ :: _,_,k,h=>.inl (by simpa [V.setP] using h)
 | .gone,_ :: _,_,k,h=>.inl (by simpa [V.setP] using h)
 | .lin _,_ :: _,_,k,h=>.inl (by simpa [V.setP] using h)
 | .tup _,_ :: _,_,k,h=>.inl (by simpa [V.setP] using h)
 | .int ..,_ :: _,_,k,h=>.inl (by simpa [V.setP] using h)
 | .bool ..,_ :: _,_,k,h=>.inl (by simpa [V.setP] using h)
 | .fn ..,_ :: _,_,k,h=>.inl (by simpa [V.setP] using h)
 | .ref ..,_ :: _,_,k,h=>.inl (by simpa [V.setP] using h)
 | .sl ..,_ :: _,_,k,h=>.inl (by simpa [V.setP] using h)
theorem Jg:∀ (vs:List V) (f:Nat) (q:List Nat) (u:V),∀ k∈V.tokss (V.setPs vs f q u),k∈V.tokss vs∨k∈u.toks
 | [],_,_,_,k,h=>by simp [V.setPs,V.tokss] at h
 | v :: vs,0,q,u,k,h=>by
   simp only [V.setPs,V.tokss,zO] at h ⊢
   rcases h with h | h
   · rcases QU v q u k h with h | h
     · exact .inl (.inl h)
     · exact .inr h
   · exact .inl (.inr h)
 | v :: vs,f + 1,q,u,k,h=>by
   simp only [V.setPs,V.tokss,zO] at h ⊢
   rcases h with h | h
   · exact .inl (.inl h)
   · rcases Jg vs f q u k h with h | h
     · exact .inl (.inr h)
     · exact .inr h
end
mutual
theorem Lg (t i q u):∀ v:V,∀ k∈(V.mut t i q u v).toks,k∈v.toks∨k∈u.toks
 | .dead,k,h | .gone,k,h | .int ..,k,h | .bool _,k,h=>by simp [V.mut,V.toks] at h
 | .lin v,k,h=>by simpa [V.toks] using Lg t i q u v k (by simpa [V.mut,V.toks] using h)
 | .tup vs,k,h=>by simpa [V.toks] using WG t i q u vs k (by simpa [V.mut,V.toks] using h)
 | .agg vs,k,h=>by simpa [V.toks] using WG t i q u vs k (by simpa [V.mut,V.toks] using h)
 | .fn g fs vs,k,h=>by
   simp only [V.mut,V.toks,zO] at h ⊢
   rcases h with h | h
   · exact (WG t i q u fs k h).imp .inl id
   · exact (WG t i q u vs k h).imp .inr id
 | .ref t' i' q' c,k,h=>by
   have ih:=Lg t i q u c
   have hseen:∀ k∈(V.seen q' q u (V.mut t i q u c)).toks,k∈c.toks∨k∈u.toks:=by
    intro k hk
    unfold V.seen at hk
    split at hk
    · rcases QU _ q u k hk with h | h
      · exact ih k h
      · exact .inr h
    · exact .inr hk
   cases t' with
   | sh=>simp [V.mut,V.toks] at h
   | nl=>
     simp only [V.mut] at h
     simp only [V.toks]
     split at h
     · split at h
       · simp only [V.toks] at h;exact hseen k h
       · simp [V.toks] at h
     · simp only [V.toks] at h;exact ih k h
   | «at» r p=>
     simp only [V.mut] at h
     simp only [V.toks,yf]
     split at h
     · split at h
       · simp only [V.toks,yf] at h
         rcases h with rfl | h
         · exact .inl (.inl rfl)
         · exact (hseen k h).imp .inr id
       · simp [V.toks] at h
     · simp only [V.toks,yf] at h
       rcases h with rfl | h
       · exact .inl (.inl rfl)
       · exact (ih k h).imp .inr id
   | bx r=>
     simp only [V.mut] at h
     simp only [V.toks,yf]
     split at h
     · split at h
       · simp only [V.toks,yf] at h
         rcases h with rfl | h
         · exact .inl (.inl rfl)
         · exact (hseen k h).imp .inr id
       · simp [V.toks] at h
     · simp only [V.toks,yf] at h
       rcases h with rfl | h
       · exact .inl (.inl rfl)
       · exact (ih k h).imp .inr id
 | .sl t' g lo xs,k,h=>by
   have ih:=WG t i q u xs
   have hset:∀ ys:List V,(∀ k∈V.tokss ys,k∈V.tokss xs∨k∈u.toks)→∀ k∈V.tokss (if lo≤i then V.setPs ys (i - lo) q u else ys),k∈V.tokss xs∨k∈u.toks:=by
    intro ys hy k hk
    split at hk
    · rcases Jg ys _ q u k hk with h | h
      · exact hy k h
      · exact .inr h
    · exact hy k hk
   cases t' with
   | sh=>simp [V.mut,V.toks] at h
   | nl=>
     by_cases hg:g.flat=true
     · simp only [V.mut,hg,z5] at h
       split at h <;> simp [V.toks,hg] at h
     · simp only [V.mut,hg,yD,yb] at h
       simp only [V.toks,hg,yD,yb]
       split at h
       · simp only [V.toks,hg,yD,yb] at h
         exact hset _ ih k h
       · simp only [V.toks,hg,yD,yb] at h
         exact ih k h
   | «at» r p=>
     by_cases hg:g.flat=true
     · simp only [V.mut,hg,z5] at h
       simp only [V.toks,hg,z5,xo]
       split at h <;> (simp only [V.toks,hg,z5,xo] at h;exact .inl h)
     · simp only [V.mut,hg,yD,yb] at h
       simp only [V.toks,hg,yD,yb,yf]
       split at h
       · simp only [V.toks,hg,yD,yb,yf] at h
         rcases h with rfl | h
         · exact .inl (.inl rfl)
         · exact (hset _ ih k h).imp .inr id
       · simp only [V.toks,hg,yD,yb,yf] at h
         rcases h with rfl | h
         · exact .inl (.inl rfl)
         · exact (ih k h).imp .inr id
   | bx r=>
     by_cases hg:g.flat=true
     · simp only [V.mut,hg,z5] at h
       simp only [V.toks,hg,z5,xo]
       split at h
       · simp [V.toks] at h
       · simp only [V.toks,hg,z5,xo] at h;exact .inl h
     · simp only [V.mut,hg,yD,yb] at h
       simp only [V.toks,hg,yD,yb,yf]
       split at h
       · simp [V.toks] at h
       · simp only [V.toks,hg,yD,yb,yf] at h
         rcases h with rfl | h
         · exact .inl (.inl rfl)
         · exact (ih k h).imp .inr id
theorem WG (t i q u):∀ vs:List V,∀ k∈V.tokss (V.muts t i q u vs),k∈V.tokss vs∨k∈u.toks
 | [],k,h=>by simp [V.muts,V.tokss] at h
 | v :: vs,k,h=>by
   simp only [V.muts,V.tokss,zO] at h ⊢
   rcases h with h | h
   · exact (Lg t i q u v k h).imp .inl id
   · exact (WG t i q u vs k h).imp .inr id
end
def V.one:V→Bool
 | .sl .. | .ref .. | .fn .. | .dead=>true
 | _=>false
theorem xW {w S τ} {v:V} {c:Value} (h1:v.one=true) (h:zT w S τ v [c]):zR w S τ v c:=by
 cases v <;> simp_all [V.one,zR]
theorem zbt (f:Tok→Option Tok) (v:V) (h:v.one=true):(V.map f v).one=true:=by
 cases v with
 | sl t g lo xs=>cases t <;> simp only [V.map] <;> (try split) <;> rfl
 | ref t i q c=>cases t <;> simp only [V.map] <;> (try split) <;> rfl
 | fn=>rfl
 | dead=>rfl
 | _=>simp [V.one] at h
theorem zaF (K:List Tok) (v:V) (h:v.one=true):(V.frz K v).one=true:=by
 cases v with
 | sl t g lo xs=>cases t <;> simp only [V.frz] <;> (repeat' split) <;> rfl
 | ref t i q c=>cases t <;> simp only [V.frz] <;> (repeat' split) <;> rfl
 | fn=>rfl
 | dead=>rfl
 | _=>simp [V.one] at h
theorem zaa (t i q u) (v:V) (h:v.one=true):(V.mut t i q u v).one=true:=by
 cases v with
 | sl t' g lo xs=>cases t' <;> simp only [V.mut] <;> (repeat' split) <;> rfl
 | ref t' i q c=>cases t' <;> simp only [V.mut] <;> (repeat' split) <;> rfl
 | fn=>rfl
 | dead=>rfl
 | _=>simp [V.one] at h
mutual
theorem wP {w w':World} {S S':Nat→Prop} {τ τ':Tok→Blk} (hS:∀ b,S b→S' b∧w'.heap[b]?=w.heap[b]?) :
    ∀ (v:V) (c:Value),zR w S τ v c→(∀ k∈v.toks,τ' k=τ k∧w'.heap[(τ k).b]?=w.heap[(τ k).b]?)→zR w' S' τ' v c
 | .dead,_,_,_=>by simp [zR]
 | .gone,_,_,_=>by simp [zR]
 | .int ..,_,h,_=>by simpa [zR] using h
 | .bool ..,_,h,_=>by simpa [zR] using h
 | .lin v,c,h,hk=>by
   simp only [zR] at h ⊢
   exact wP hS v c h (by simpa [V.toks] using hk)
 | .agg vs,c,h,hk=>by
   simp only [zR] at h ⊢
   obtain ⟨arr,e,h⟩:=h
   exact ⟨arr,e,vf hS vs _ h (by simpa [V.toks] using hk)⟩
 | .tup vs,c,h,hk=>by
   simp only [zR] at h ⊢
   obtain ⟨arr,e,h⟩:=h
   exact ⟨arr,e,Mw hS vs _ h (by simpa [V.toks] using hk)⟩
 | .sl ..,_,h,hk=>xW rfl (wy hS _ _ (by simpa only [zR] using h) hk)
 | .ref ..,_,h,hk=>xW rfl (wy hS _ _ (by simpa only [zR] using h) hk)
 | .fn ..,_,h,hk=>xW rfl (wy hS _ _ (by simpa only [zR] using h) hk)
theorem Mw {w w':World} {S S':Nat→Prop} {τ τ':Tok→Blk} (hS:∀ b,S b→S' b∧w'.heap[b]?=w.heap[b]?) :
    ∀ (vs:List V) (cs:List Value),yB w S τ vs cs→(∀ k∈V.tokss vs,τ' k=τ k∧w'.heap[(τ k).b]?=w.heap[(τ k).b]?)→yB w' S' τ' vs cs
 | [],cs,h,_=>by simpa [yB] using h
 | v :: vs,cs,h,hk=>by
   simp only [yB] at h ⊢
   obtain ⟨c,cs',e,h1,h2⟩:=h
   exact ⟨c,cs',e,wP hS v c h1 fun k hk'=>hk k (by simp [V.tokss,hk']),Mw hS vs cs' h2 fun k hk'=>hk k (by simp [V.tokss,hk'])⟩
end
mutual
theorem La {w:World} {S:Nat→Prop} {τ τ':Tok→Blk} {f:Tok→Option Tok} (hf:MC f τ τ') :
    ∀ (v:V) (c:Value),zR w S τ v c→zR w S τ' (V.map f v) c
 | .dead,_,_=>by simp [zR,V.map]
 | .gone,_,_=>by simp [zR,V.map]
 | .int ..,_,h=>by simpa [zR,V.map] using h
 | .bool ..,_,h=>by simpa [zR,V.map] using h
 | .lin v,c,h=>by
   simp only [zR,V.map] at h ⊢
   exact La hf v c h
 | .agg vs,c,h=>by
   simp only [zR,V.map] at h ⊢
   obtain ⟨arr,e,h⟩:=h
   exact ⟨arr,e,WB hf vs _ h⟩
 | .tup vs,c,h=>by
   simp only [zR,V.map] at h ⊢
   obtain ⟨arr,e,h⟩:=h
   exact ⟨arr,e,L8 hf vs _ h⟩
 | .sl ..,_,h=>xW (zbt f _ rfl) (W9 hf _ _ (by simpa only [zR] using h))
 | .ref ..,_,h=>xW (zbt f _ rfl) (W9 hf _ _ (by simpa only [zR] using h))
 | .fn ..,_,h=>xW (zbt f _ rfl) (W9 hf _ _ (by simpa only [zR] using h))
theorem L8 {w:World} {S:Nat→Prop} {τ τ':Tok→Blk} {f:Tok→Option Tok} (hf:MC f τ τ') :
    ∀ (vs:List V) (cs:List Value),yB w S τ vs cs→yB w S τ' (V.maps f vs) cs
 | [],cs,h=>by simpa [yB,V.maps] using h
 | v :: vs,cs,h=>by
   simp only [yB,V.maps] at h ⊢
   obtain ⟨c,cs',e,h1,h2⟩:=h
   exact ⟨c,cs',e,La hf v c h1,L8 hf vs cs' h2⟩
end
mutual
theorem U8 {w:World} {S S':Nat→Prop} {τ τ':Tok→Blk} (hS:∀ b,S b→S' b) :
    ∀ (v:V) (c:Value),zR w S τ v c→(∀ k∈v.toks,S' (τ k).b)→zR w S' τ' v.erase c
 | .dead,_,_,_=>by simp [zR,V.erase]
 | .gone,_,_,_=>by simp [zR,V.erase]
 | .int ..,_,h,_=>by simpa [zR,V.erase] using h
 | .bool ..,_,h,_=>by simpa [zR,V.erase] using h
 | .lin v,c,h,hk=>by
   simp only [zR,V.erase] at h ⊢
   exact U8 hS v c h (by simpa [V.toks] using hk)
 | .agg vs,c,h,hk=>by
   simp only [zR,V.erase] at h ⊢
   obtain ⟨arr,e,h⟩:=h
   exact ⟨arr,e,X6 hS vs _ h (by simpa [V.toks] using hk)⟩
 | .tup vs,c,h,hk=>by
   simp only [zR,V.erase] at h ⊢
   obtain ⟨arr,e,h⟩:=h
   exact ⟨arr,e,Uj hS vs _ h (by simpa [V.toks] using hk)⟩
 | .sl ..,_,h,hk=>xW rfl (uU hS _ _ (by simpa only [zR] using h) hk)
 | .ref ..,_,h,hk=>xW rfl (uU hS _ _ (by simpa only [zR] using h) hk)
 | .fn ..,_,h,hk=>xW rfl (uU hS _ _ (by simpa only [zR] using h) hk)
theorem Uj {w:World} {S S':Nat→Prop} {τ τ':Tok→Blk} (hS:∀ b,S b→S' b) :
    ∀ (vs:List V) (cs:List Value),yB w S τ vs cs→(∀ k∈V.tokss vs,S' (τ k).b)→yB w S' τ' (V.erases vs) cs
 | [],cs,h,_=>by simpa [yB,V.erases] using h
 | v :: vs,cs,h,hk=>by
   simp only [yB,V.erases] at h ⊢
   obtain ⟨c,cs',e,h1,h2⟩:=h
   exact ⟨c,cs',e,U8 hS v c h1 fun k hk'=>hk k (by simp [V.tokss,hk']),Uj hS vs cs' h2 fun k hk'=>hk k (by simp [V.tokss,hk'])⟩
end
mutual
theorem NE {w:World} {S S':Nat→Prop} {τ:Tok→Blk} {K:List Tok} (hS:∀ b,S b→S' b) (hK:∀ k,K.contains k=true→S' (τ k).b) (hn:K.contains .nl=false) :
    ∀ (v:V) (c:Value),zR w S τ v c→zR w S' τ (V.frz K v) c
 | .dead,_,_=>by simp [zR,V.frz]
 | .gone,_,_=>by simp [zR,V.frz]
 | .int ..,_,h=>by simpa [zR,V.frz] using h
 | .bool ..,_,h=>by simpa [zR,V.frz] using h
 | .lin v,c,h=>by
   simp only [zR,V.frz] at h ⊢
   exact NE hS hK hn v c h
 | .agg vs,c,h=>by
   simp only [zR,V.frz] at h ⊢
   obtain ⟨arr,e,h⟩:=h
   exact ⟨arr,e,UB hS hK hn vs _ h⟩
 | .tup vs,c,h=>by
   simp only [zR,V.frz] at h ⊢
   obtain ⟨arr,e,h⟩:=h
   exact ⟨arr,e,QF hS hK hn vs _ h⟩
 | .sl ..,_,h=>xW (zaF K _ rfl) (U0 hS hK hn _ _ (by simpa only [zR] using h))
 | .ref ..,_,h=>xW (zaF K _ rfl) (U0 hS hK hn _ _ (by simpa only [zR] using h))
 | .fn ..,_,h=>xW (zaF K _ rfl) (U0 hS hK hn _ _ (by simpa only [zR] using h))
theorem QF {w:World} {S S':Nat→Prop} {τ:Tok→Blk} {K:List Tok} (hS:∀ b,S b→S' b) (hK:∀ k,K.contains k=true→S' (τ k).b) (hn:K.contains .nl=false) :
    ∀ (vs:List V) (cs:List Value),yB w S τ vs cs→yB w S' τ (V.frzs K vs) cs
 | [],cs,h=>by simpa [yB,V.frzs] using h
 | v :: vs,cs,h=>by
   simp only [yB,V.frzs] at h ⊢
   obtain ⟨c,cs',e,h1,h2⟩:=h
   exact ⟨c,cs',e,NE hS hK hn v c h1,QF hS hK hn vs cs' h2⟩
end
mutual
theorem Nq {w w':World} {S:Nat→Prop} {τ:Tok→Blk} {b off:Nat} {us:List Value} (hw:Wr w w' b off us) {t:Tok} (hown:t≠.sh∧t≠.nl) (hb:(τ t).b=b) (hS:¬ S b)
    {i:Nat} {q:List Nat} {o:Nat} {g:Sh} (ho:(τ t).h.off q=some (o,g)) (hoff:off=(τ t).base + i * (τ t).h.size + o) {u:V} (hu:zT w' S τ u us) (hg:u.shape=g) :
    ∀ (v:V) (c:Value),zR w S τ v c→(∀ k∈v.toks,k≠t→(τ k).b≠b)→zR w' S τ (V.mut t i q u v) c
 | .dead,_,_,_=>by simp [zR,V.mut]
 | .gone,_,_,_=>by simp [zR,V.mut]
 | .int ..,_,h,_=>by simpa [zR,V.mut] using h
 | .bool ..,_,h,_=>by simpa [zR,V.mut] using h
 | .lin v,c,h,hk=>by
   simp only [zR,V.mut] at h ⊢
   exact Nq hw hown hb hS ho hoff hu hg v c h (by simpa [V.toks] using hk)
 | .agg vs,c,h,hk=>by
   simp only [zR,V.mut] at h ⊢
   obtain ⟨arr,e,h⟩:=h
   exact ⟨arr,e,XW hw hown hb hS ho hoff hu hg vs _ h (by simpa [V.toks] using hk)⟩
 | .tup vs,c,h,hk=>by
   simp only [zR,V.mut] at h ⊢
   obtain ⟨arr,e,h⟩:=h
   exact ⟨arr,e,Qm hw hown hb hS ho hoff hu hg vs _ h (by simpa [V.toks] using hk)⟩
 | .sl ..,_,h,hk=>xW (zaa t i q u _ rfl) (WV hw hown hb hS ho hoff hu hg _ _ (by simpa only [zR] using h) hk)
 | .ref ..,_,h,hk=>xW (zaa t i q u _ rfl) (WV hw hown hb hS ho hoff hu hg _ _ (by simpa only [zR] using h) hk)
 | .fn ..,_,h,hk=>xW (zaa t i q u _ rfl) (WV hw hown hb hS ho hoff hu hg _ _ (by simpa only [zR] using h) hk)
theorem Qm {w w':World} {S:Nat→Prop} {τ:Tok→Blk} {b off:Nat} {us:List Value} (hw:Wr w w' b off us) {t:Tok} (hown:t≠.sh∧t≠.nl) (hb:(τ t).b=b) (hS:¬ S b)
    {i:Nat} {q:List Nat} {o:Nat} {g:Sh} (ho:(τ t).h.off q=some (o,g)) (hoff:off=(τ t).base + i * (τ t).h.size + o) {u:V} (hu:zT w' S τ u us) (hg:u.shape=g) :
    ∀ (vs:List V) (cs:List Value),yB w S τ vs cs→(∀ k∈V.tokss vs,k≠t→(τ k).b≠b)→yB w' S τ (V.muts t i q u vs) cs
 | [],cs,h,_=>by simpa [yB,V.muts] using h
 | v :: vs,cs,h,hk=>by
   simp only [yB,V.muts] at h ⊢
   obtain ⟨c,cs',e,h1,h2⟩:=h
   exact ⟨c,cs',e,Nq hw hown hb hS ho hoff hu hg v c h1 fun k hk'=>hk k (by simp [V.tokss,hk']),Qm hw hown hb hS ho hoff hu hg vs cs' h2 fun k hk'=>hk k (by simp [V.tokss,hk'])⟩
end
mutual
theorem ZB:∀ v:V,∀ k∈v.toks,k≠.sh∧k≠.nl
 | .dead,k,h | .gone,k,h | .int ..,k,h | .bool _,k,h=>by simp [V.toks] at h
 | .lin v,k,h=>ZB v k (by simpa [V.toks] using h)
 | .tup vs,k,h=>WK vs k (by simpa [V.toks] using h)
 | .agg vs,k,h=>WK vs k (by simpa [V.toks] using h)
 | .fn _ fs vs,k,h=>by
   simp only [V.toks,zO] at h
   rcases h with h | h
   · exact WK fs k h
   · exact WK vs k h
 | .ref t i q c,k,h=>by
   have ih:=ZB c k
   cases t with
   | sh=>simp [V.toks] at h
   | nl=>exact ih (by simpa [V.toks] using h)
   | _=>
     simp only [V.toks,yf] at h
     rcases h with rfl | h
     · simp
     · exact ih h
 | .sl t g lo xs,k,h=>by
   have ih:=WK xs k
   cases t with
   | sh=>simp [V.toks] at h
   | nl=>
     simp only [V.toks] at h
     split at h
     · cases h
     · exact ih h
   | _=>
     simp only [V.toks,yf] at h
     rcases h with rfl | h
     · simp
     · split at h
       · cases h
       · exact ih h
theorem WK:∀ vs:List V,∀ k∈V.tokss vs,k≠.sh∧k≠.nl
 | [],k,h=>by simp [V.tokss] at h
 | v :: vs,k,h=>by
   simp only [V.tokss,zO] at h
   rcases h with h | h
   · exact ZB v k h
   · exact WK vs k h
end
inductive O where
 | t (n:Nat)
 | k (v:V)
 deriving Repr,Inhabited
def O.ev (s:Nat→V):O→V
 | .t n=>s n
 | .k v=>v
def V.ok:V→Bool
 | .lin _ | .gone=>false
 | _=>true
def V.mem:V→Bool
 | .lin _ | .gone | .dead | .tup _=>false
 | _=>true
def O.rd (s:Nat→V) (x:O):Option V:=if (x.ev s).ok then some (x.ev s) else none
def O.pk (s:Nat→V) (x:O):V:=match x.ev s with
 | .lin v=>v
 | v=>v
def Wj (op:BinOp) (k:IntKind) (x y:Int):Option V:=
 match op with
 | .add=>some (.int k (k.wrap (x + y)))
 | .sub=>some (.int k (k.wrap (x - y)))
 | .mul=>some (.int k (k.wrap (x * y)))
 | .quo=>if y=0 then none else some (.int k (k.wrap (x.tdiv y)))
 | .rem=>if y=0 then none else some (.int k (x.tmod y))
 | .and=>some (.int k (k.wrap (BitVec.ofInt k.bits x &&& BitVec.ofInt k.bits y).toNat))
 | .or=>some (.int k (k.wrap (BitVec.ofInt k.bits x ||| BitVec.ofInt k.bits y).toNat))
 | .xor=>some (.int k (k.wrap (BitVec.ofInt k.bits x ^^^ BitVec.ofInt k.bits y).toNat))
 | .andNot=>some (.int k (k.wrap (BitVec.ofInt k.bits x &&& ~~~BitVec.ofInt k.bits y).toNat))
 | .eql=>some (.bool (x == y))
 | .neq=>some (.bool (x != y))
 | .lss=>some (.bool (x < y))
 | .leq=>some (.bool (x≤y))
 | .gtr=>some (.bool (x > y))
 | .geq=>some (.bool (x≥y))
 | .shl | .shr=>none
def J3 (op:BinOp) (k:IntKind) (x y:Int):Option V:=
 if y < 0 then none else
 match op with
 | .shl=>some (.int k (k.wrap (x * 2 ^ (min y.toNat k.bits))))
 | .shr=>some (.int k (x.fdiv (2 ^ (min y.toNat k.bits))))
 | _=>none
def NP (op:BinOp):V→V→Option V
 | .int k a,.int k' b=>(match op with
   | .shl | .shr=>J3 op k a b
   | _=>if k=k' then Wj op k a b else none)
 | _,_=>none
def MZ:List V→Option V
 | .int k a :: rest=>rest.foldlM (fun acc v=>match acc,v with
   | .int k a,.int _ b=>some (.int k (if b > a then b else a))
   | _,_=>none) (.int k a)
 | _=>none
def NS:List V→Option V
 | .int k a :: rest=>rest.foldlM (fun acc v=>match acc,v with
   | .int k a,.int _ b=>some (.int k (if b < a then b else a))
   | _,_=>none) (.int k a)
 | _=>none
inductive A where
 | mov (x:O)
 | pick (c a b:O)
 | load (h:Sh) (x:O)
 | nilc (x:O)
 | bin (op:BinOp) (x y:O)
 | beq (ne:Bool) (x y:O)
 | eqP (ne:Bool) (x y:O)
 | un (op:UnOp) (x:O)
 | conv (k:IntKind) (x:O)
 | fn (f:Nat) (fs cap:List O)
 | fld (x:O) (f off:Nat)
 | field (x:O) (f off:Nat) (h:Sh)
 | idx (x i:O) (e:Nat)
 | idxA (x i:O) (n e:Nat)
 | index (x i:O) (n:Nat) (h:Sh)
 | ext (x:O) (i:Nat)
 | extS (x:O) (i:Nat)
 | slice (x:O) (lo hi:Option O) (e:Nat)
 | sliceA (x:O) (n:Nat) (h:Sh)
 | len (x:O)
 | mx (xs:List O)
 | mn (xs:List O)
 | bld (z:V) (ps:List (Nat×Nat×O))
 deriving Repr,Inhabited
def Z0 (s:Nat→V):List O→Option (List V)
 | []=>some []
 | x :: xs=>match x.rd s,Z0 s xs with
   | some v,some vs=>some (v :: vs)
   | _,_=>none
def YY (s:Nat→V) (d:Nat):Option O→Option Nat
 | none=>some d
 | some x=>match x.rd s with
   | some (.int _ n)=>if 0≤n then some n.toNat else none
   | _=>none
def xX (s:Nat→V):List (Nat×Nat×O)→List V→Option (List V)
 | [],vs=>some vs
 | (f,off,x) :: ps,vs=>match x.rd s,vs[f]? with
   | some v,some old=>if v.mem && v.shape.beq old.shape && Sh.sizes (V.shapes (vs.take f)) == off then xX s ps (vs.set f v) else none
   | _,_=>none
def yy (s:Nat→V):A→Option V
 | .mov x=>x.rd s
 | .pick c a b=>match c.rd s,a.rd s,b.rd s with
   | some (.bool t),some u,some v=>some (if t then u else v)
   | _,_,_=>none
 | .load h x=>match x.rd s with
   | some (.ref _ _ _ c)=>if c.shape.beq h then some c else none
   | _=>none
 | .nilc x=>match x.rd s with
   | some (.ref t i q c)=>some (.ref t i q c)
   | some (.fn f fs env)=>some (.fn f fs env)
   | _=>none
 | .bin op x y=>match x.rd s,y.rd s with
   | some u,some v=>NP op u v
   | _,_=>none
 | .beq ne x y=>match x.rd s,y.rd s with
   | some (.bool a),some (.bool b)=>some (.bool (if ne then a != b else a == b))
   | _,_=>none
 | .eqP ne x y=>match x.rd s,y.rd s with
   | some (.agg [.int .i64 a,.int .i64 b]),some (.agg [.int .i64 c,.int .i64 d])=>some (.bool (if ne then !(a == c && b == d) else a == c && b == d))
   | _,_=>none
 | .un op x=>match op,x.rd s with
   | .neg,some (.int k n)=>Wj .sub k 0 n
   | .xor,some (.int k n)=>Wj .xor k (if k.signed then -1 else k.max) n
   | .not,some (.bool b)=>some (.bool !b)
   | _,_=>none
 | .conv k x=>match x.rd s with
   | some (.int _ n)=>some (.int k (k.wrap n))
   | _=>none
 | .fn f fs cap=>match Z0 s fs,Z0 s cap with
   | some us,some vs=>if vs.all (fun v=>v.one && v.mem) && us.all (fun u=>(u.one && u.mem) || u.isAgg) then some (.fn f us vs) else none
   | _,_=>none
 | .fld x f off=>match x.rd s with
   | some (.ref t i q (.agg vs))=>match vs[f]? with
     | some c=>if Sh.sizes (V.shapes (vs.take f)) == off then some (.ref t i (q++[f]) c) else none
     | none=>none
   | _=>none
 | .field x f off h=>match x.rd s with
   | some (.agg vs)=>match vs[f]? with
     | some c=>if Sh.sizes (V.shapes (vs.take f)) == off && c.shape.beq h then some c else none
     | none=>none
   | _=>none
 | .idx x i e=>match x.rd s,i.rd s with
   | some (.sl t h lo xs),some (.int _ n)=>
     if 0≤n then match xs[n.toNat]? with
      | some c=>if h.size == e && t != .nl && !t.isBx then some (.ref t (if t = .sh then 0 else lo + n.toNat) [] c) else none
      | none=>none
     else none
   | _,_=>none
 | .idxA x i n e=>match x.rd s,i.rd s with
   | some (.ref t j q (.agg vs)),some (.int _ k)=>
     if 0≤k then match vs[k.toNat]? with
      | some c=>if vs.length == n && Sh.sizes (V.shapes (vs.take k.toNat)) == k.toNat * e then some (.ref t j (q++[k.toNat]) c) else none
      | none=>none
     else none
   | _,_=>none
 | .index x i n h=>match x.rd s,i.rd s with
   | some (.agg vs),some (.int _ k)=>
     if 0≤k then match vs[k.toNat]? with
      | some c=>if vs.length == n && Sh.sizes (V.shapes (vs.take k.toNat)) == k.toNat * h.size && c.shape.beq h then some c else none
      | none=>none
     else none
   | _,_=>none
 | .ext x i=>match x.rd s with
   | some (.tup vs)=>match vs[i]? with
     | some v=>if v.ok then some v else none
     | none=>none
   | _=>none
 | .extS x i=>match x.rd s with
   | some (.tup vs)=>match vs[i]? with
     | some (.int k n)=>some (.int k n)
     | some (.bool b)=>some (.bool b)
     | _=>none
   | _=>none
 | .slice x lo hi e=>match x.rd s with
   | some (.sl t h l xs)=>match YY s 0 lo,YY s xs.length hi with
     | some a,some b=>if a≤b && b≤xs.length && h.size == e && !t.isBx then some (.sl t h (if t = .sh then 0 else l + a) ((xs.drop a).take (b - a))) else none
     | _,_=>none
   | _=>none
 | .sliceA x n h=>match x.rd s with
   | some (.ref t _ _ (.agg vs))=>
     if vs.length == n && vs.all (fun v=>v.shape.beq h) then
      match t with
      | .sh=>some (.sl .sh h 0 vs)
      | .bx r=>some (.sl (.bx r) h 0 vs)
      | _=>none
     else none
   | _=>none
 | .len x=>match x.pk s with
   | .sl _ _ _ xs=>some (.int .i64 xs.length)
   | _=>none
 | .mx xs=>match Z0 s xs with
   | some vs=>MZ vs
   | none=>none
 | .mn xs=>match Z0 s xs with
   | some vs=>NS vs
   | none=>none
 | .bld z ps=>match z with
   | .agg vs=>(xX s ps vs).map .agg
   | _=>none
abbrev Mz (w:World) (S:Nat→Prop) (τ:Tok→Blk) (s:Nat→V) (a:Act):Prop:=∀ t,zR w S τ (s t) (a.eval (.tmp t))
def cK (h:Sh):Value→Option V
 | .int k n=>some (.int k n)
 | .bool b=>some (.bool b)
 | .slice none 0 0=>some (.sl .nl h 0 [])
 | _=>none
def cO (h:Sh):Operand→Option O
 | .tmp t=>some (.t t)
 | .const v=>(cK h v).map .k
 | .func f=>some (.k (.fn f [] []))
 | .global _=>none
theorem zdY {w S τ h v u} (e:cK h v=some u):zR w S τ u v∧u.toks=[]∧u.ok=true:=by
 unfold cK at e
 split at e <;> simp at e
 · subst e;simp [zR,V.toks,V.ok]
 · subst e;simp [zR,V.toks,V.ok]
 · subst e
   refine ⟨?_,by simp [V.toks,V.tokss],rfl⟩
   simp only [zR,zT]
   exact ⟨none,0,rfl,by simp,by simp,by simp,.inl rfl⟩
theorem M3 {w S τ s a h x o} (e:cO h x=some o) (ht:Mz w S τ s a):zR w S τ (o.ev s) (a.eval x):=by
 cases x with
 | tmp t=>simp [cO] at e;subst e;exact ht t
 | const v=>
   simp only [cO,ye] at e
   obtain ⟨u,hu,rfl⟩:=e
   exact (zdY hu).1
 | func f=>
   simp [cO] at e;subst e
   simp [O.ev,zR,zT,vY,yC,Act.eval]
 | global g=>simp [cO] at e
def Kg (s:Nat→V) (v:V):Prop:=∀ k∈v.toks,∃ t,k∈(s t).toks∧(s t).ok=true
theorem Jf {s h x o v} (e:cO h x=some o) (hr:o.rd s=some v):Kg s v∧v.ok=true∧v=o.ev s:=by
 unfold O.rd at hr
 split at hr
 · rename_i hok
   simp at hr
   subst hr
   refine ⟨fun k hk=>?_,hok,rfl⟩
   cases o with
   | t n=>exact ⟨n,hk,hok⟩
   | k u=>
     exfalso
     cases x with
     | tmp t=>simp [cO] at e
     | const v=>
       simp only [cO,ye] at e
       obtain ⟨u',hu,e'⟩:=e
       simp at e';subst e'
       have:=(zdY (w:=default) (S:=fun _=>False) (τ:=fun _=>⟨0,0,.s⟩) hu).2.1
       simp [O.ev,this] at hk
     | func f=>
       simp [cO] at e
       subst e
       simp [O.ev,V.toks,V.tokss] at hk
     | global g=>simp [cO] at e
 · cases hr
theorem zbg {w S τ s a h x o v} (e:cO h x=some o) (ht:Mz w S τ s a) (hr:o.rd s=some v):zR w S τ v (a.eval x):=by
 rw [(Jf e hr).2.2];exact M3 e ht
theorem Ww {w S τ} {v:V} {c:Value} (hs:v.isAgg=false) (h:zT w S τ v [c]):zR w S τ v c:=by
 cases v <;> simp_all [zT,zR,V.isAgg]
theorem zbY {w S τ} {v:V} {c:Value} (h:zR w S τ v c) (hok:v.ok=true) (ht:∀ vs,v≠.tup vs) (hd:v≠.dead) (ha:v.isAgg=false):zT w S τ v [c]:=by
 cases v <;> simp_all [zT,zR,V.isAgg,V.ok]
theorem U6 {w S τ} {v:V} {c:Value} (h:zR w S τ v c) (hok:v.ok=true) (ht:∀ vs,v≠.tup vs) (hd:v≠.dead):zT w S τ v c.cells.toList:=by
 cases v with
 | agg vs=>
   simp only [zR] at h
   obtain ⟨arr,rfl,h⟩:=h
   simpa [zT,Value.cells] using h
 | int k n=>simp only [zR] at h;subst h;simp [zT,Value.cells]
 | bool b=>simp only [zR] at h;subst h;simp [zT,Value.cells]
 | sl t g lo xs=>
   simp only [zR] at h
   have h0:=h
   simp only [zT] at h
   obtain ⟨x,cap,e,_⟩:=h
   simp at e;subst e
   simpa [Value.cells] using h0
 | ref t i q u=>
   simp only [zR] at h
   have h0:=h
   simp only [zT] at h
   obtain ⟨b,off,arr,ty,fz,e,_⟩:=h
   simp at e;subst e
   simpa [Value.cells] using h0
 | fn f fs env=>
   simp only [zR] at h
   have h0:=h
   simp only [zT] at h
   obtain ⟨x,y,e,_⟩:=h
   simp at e;subst e
   simpa [Value.cells] using h0
 | dead=>exact absurd rfl hd
 | gone=>simp [V.ok] at hok
 | lin v=>simp [V.ok] at hok
 | tup vs=>exact absurd rfl (ht vs)
theorem WQ (b off n:Nat):(⟨b,off,none⟩:Addr).add n=⟨b,off + n,none⟩:=by
 unfold Addr.add;split <;> simp_all
theorem Li {w:World} {b off:Nat} {arr:Array Value} {ty:TypeId} {fz:Nat×Nat} (h:w.heap[b]?=some (.cells arr ty fz)):w.cell? ⟨b,off,none⟩=arr[off]?:=by
 simp [World.cell?,h]
theorem JD {P:Program} {w:World} {b off n:Nat} {arr:Array Value} {ty:TypeId} {fz:Nat×Nat} (h:w.heap[b]?=some (.cells arr ty fz)) (hle:off + n≤arr.size) :
    (loadCells ⟨b,off,none⟩ n).run P w = .ok ((arr.toList.drop off).take n).toArray w:=by
 have hl:((arr.toList.drop off).take n).length=n:=by simp;omega
 have:=run_loadCells_list (P:=P) w ⟨b,off,none⟩ ((arr.toList.drop off).take n) (by
  intro j v hj
  rw [WQ,Li h]
  rw [U9] at hj
  split at hj
  · simpa using hj
  · cases hj)
 rwa [hl] at this
def Sh.isAg:Sh→Bool
 | .ag _=>true
 | _=>false
theorem JS {v:V} (hl:∀ u,v≠.lin u):v.isAgg=v.shape.isAg:=by
 cases v <;> simp_all [V.isAgg,V.shape,Sh.isAg]
theorem K6 {w S τ v cs} (h:zT w S τ v cs):∀ u,v≠.lin u:=by
 rintro u rfl;simp [zT] at h
def Lb (P:Program) (t:TypeId):Option Bool:=(P.underlying t).map fun d=>match d with
 | .struct _ | .array _ _=>true
 | _=>false
theorem UA {P:Program} {t:TypeId} {b:Bool} (h:Lb P t=some b) (w:World):(isAgg t).run P w = .ok b w:=by
 simp only [Lb,ye] at h
 obtain ⟨d,hd,rfl⟩:=h
 simp only [isAgg,xp,run_underlying hd,xi]
 cases d <;> rfl
def vD (P:Program) (t:TypeId):Option Nat:=(P.info? t).map (·.size)
theorem uy {P:Program} {t:TypeId} {n:Nat} (h:vD P t=some n) (w:World):(sizeOf t).run P w = .ok n w:=by
 simp only [vD,ye] at h
 obtain ⟨i,hi,rfl⟩:=h
 simp [sizeOf,typeInfo,hi]
theorem Mr {P:Program} {w S τ} {t:TypeId} {c:V} {b off:Nat} {arr:Array Value} {ty:TypeId} {fz:Nat×Nat} (h:w.heap[b]?=some (.cells arr ty fz))
    (hle:off + c.shape.size≤arr.size) (hr:zT w S τ c ((arr.toList.drop off).take c.shape.size)) (ha:Lb P t=some c.shape.isAg) (hs:vD P t=some c.shape.size) :
    ∃ v,(loadVar t ⟨b,off,none⟩).run P w = .ok v w∧zR w S τ c v:=by
 have hag:=JS (K6 hr)
 cases hc:c.shape.isAg with
 | true=>
   rw [hc] at ha hag
   refine ⟨.agg ((arr.toList.drop off).take c.shape.size).toArray,?_,?_⟩
   · simp [loadVar,UA ha,uy hs,JD h hle]
   · cases c with
     | agg vs=>simp only [zT] at hr;exact ⟨_,rfl,by simpa using hr⟩
     | _=>simp [V.isAgg] at hag
 | false=>
   rw [hc] at ha hag
   have h1:c.shape.size=1:=by
    cases hsh:c.shape with
    | s=>rfl
    | p=>rfl
    | ag hs=>rw [hsh] at hc;simp [Sh.isAg] at hc
   rw [h1] at hle hr
   have hcell:w.cell? ⟨b,off,none⟩=some (arr[off]'(by omega)):=by rw [Li h];simp
   refine ⟨arr[off]'(by omega),?_,?_⟩
   · simp [loadVar,UA ha,hcell]
   · have e:(arr.toList.drop off).take 1=[arr[off]'(by omega)]:=by
      apply List.ext_getElem?
      intro k
      rw [U9]
      cases k with
      | zero=>simp
      | succ k=>simp
     rw [e] at hr
     exact Ww (by rw [hag]) hr
section
variable {P:Program} {w:World} {S:Nat→Prop} {τ:Tok→Blk} {s:Nat→V} {a:Act}
theorem Xk {k n} {c:Value} (h:zR w S τ (.int k n) c):c = .int k n:=by simpa [zR] using h
theorem MO {b} {c:Value} (h:zR w S τ (.bool b) c):c = .bool b:=by simpa [zR] using h
def Ka:V→Value
 | .int k n=>.int k n
 | .bool b=>.bool b
 | _=>undef
theorem zkD {op:BinOp} {t:TypeId} {x y:Operand} {k k':IntKind} {m n:Int} {r:V}
    (he:NP op (.int k m) (.int k' n)=some r) :
    ∃ c,(do eqGuard op t x y (.int k m) (.int k' n);binOp op t (.int k m) (.int k' n):Sem Value).run P w = .ok c w∧zR w S τ r c:=by
 have hg:(eqGuard op t x y (.int k m) (.int k' n)).run P w = .ok () w:=by
  unfold eqGuard
  cases op <;> rfl
 simp only [xp,hg,xi]
 simp only [NP] at he
 refine ⟨Ka r,?_⟩
 by_cases hs:op = .shl∨op = .shr
 · rcases hs with rfl | rfl <;> simp only [J3] at he <;> split at he
   · cases he
   · rename_i hn
     simp at he;subst he
     exact ⟨by simp [binOp,Op.shift,hn,Ka],by simp [zR,Ka]⟩
   · cases he
   · rename_i hn
     simp at he;subst he
     exact ⟨by simp [binOp,Op.shift,hn,Ka],by simp [zR,Ka]⟩
 · have he':(if k=k' then Wj op k m n else none)=some r:=by cases op <;> simp_all
   clear he
   split at he'
   · rename_i hk
     subst hk
     by_cases hd:op = .quo∨op = .rem
     · rcases hd with rfl | rfl <;> simp only [Wj] at he' <;> split at he'
       · cases he'
       · rename_i hz
         simp at he';subst he'
         exact ⟨by simp [binOp,Op.intDiv,hz,Ka],by simp [zR,Ka]⟩
       · cases he'
       · rename_i hz
         simp at he';subst he'
         exact ⟨by simp [binOp,Op.intDiv,hz,Ka],by simp [zR,Ka]⟩
     · cases op <;> simp [Wj] at he' hd hs <;> subst he' <;>
        exact ⟨by simp [binOp,Op.intArith,Op.intBits,Op.intCmp,Ka],by simp [zR,Ka]⟩
   · cases he'
theorem zkZ {op:BinOp} {t:TypeId} {x y:Operand} {u v r:V} (hx:zR w S τ u (a.eval x)) (hy:zR w S τ v (a.eval y)) (he:NP op u v=some r) :
    ∃ c,(do eqGuard op t x y (a.eval x) (a.eval y);binOp op t (a.eval x) (a.eval y):Sem Value).run P w = .ok c w∧zR w S τ r c:=by
 cases u with
 | int k m=>
   cases v with
   | int k' n=>rw [Xk hx,Xk hy];exact zkD he
   | _=>simp [NP] at he
 | _=>simp [NP] at he
theorem zfQ {ne:Bool} {t:TypeId} {x y:Operand} {m n:Bool} (hx:zR w S τ (.bool m) (a.eval x)) (hy:zR w S τ (.bool n) (a.eval y)) (h:P.underlying t=some .bool) :
    ∃ c,(do eqGuard (if ne then .neq else .eql) t x y (a.eval x) (a.eval y);binOp (if ne then .neq else .eql) t (a.eval x) (a.eval y):Sem Value).run P w = .ok c w ∧
     zR w S τ (.bool (if ne then m != n else m == n)) c:=by
 rw [MO hx,MO hy]
 have hq:(Op.equal t (.bool m) (.bool n)).run P w = .ok (m == n) w:=by
  unfold Op.equal Op.maxDepth
  rw [Op.equalIn]
  simp [run_underlying h]
 cases ne
 · have hg:(eqGuard .eql t x y (.bool m) (.bool n)).run P w = .ok () w:=rfl
   simp only [xp,yD,yb,hg,xi]
   exact ⟨.bool (m == n),by simp [binOp,hq],by simp [zR]⟩
 · have hg:(eqGuard .neq t x y (.bool m) (.bool n)).run P w = .ok () w:=rfl
   simp only [xp,z5,hg,xi]
   exact ⟨.bool (m != n),by simp [binOp,hq];cases m <;> cases n <;> rfl,by simp [zR]⟩
theorem zeP {ne:Bool} {t e:TypeId} {x y:Operand} {m1 m2 n1 n2:Int} (hx:zR w S τ (.agg [.int .i64 m1,.int .i64 m2]) (a.eval x)) (hy:zR w S τ (.agg [.int .i64 n1,.int .i64 n2]) (a.eval y)) (h:P.underlying t=some (.array 2 e)) (he:P.underlying e=some (.int .i64)) (hs:vD P e=some 1) (hg:P.eqGuardType P.depth t=false) :
    ∃ c,(do eqGuard (if ne then .neq else .eql) t x y (a.eval x) (a.eval y);binOp (if ne then .neq else .eql) t (a.eval x) (a.eval y):Sem Value).run P w = .ok c w ∧
     zR w S τ (.bool (if ne then !(m1 == n1 && m2 == n2) else m1 == n1 && m2 == n2)) c:=by
 have ex:∀ {u1 u2:Int} {z:Operand},zR w S τ (.agg [.int .i64 u1,.int .i64 u2]) (a.eval z)→a.eval z = .agg #[.int .i64 u1,.int .i64 u2]:=by
  intro u1 u2 z hz
  simp only [zR] at hz
  obtain ⟨arr,e0,h0⟩:=hz
  simp only [yC,zT,V.shape,Sh.size] at h0
  obtain ⟨h1,h2,h3⟩:=h0
  rw [e0]
  congr 1
  apply Array.ext'
  have e:arr.toList=arr.toList.take 1++((arr.toList.drop 1).take 1++(arr.toList.drop 1).drop 1):=by rw [Y5,Y5]
  rw [e,h1,h2,h3]
  rfl
 rw [ex hx,ex hy]
 obtain ⟨i,hi,hi1⟩:∃ i,P.info? e=some i∧i.size=1:=by
  simp only [vD,ye] at hs;exact hs
 have hag:Lb P e=some false:=by simp [Lb,he]
 have hce:P.cellsOf e=1:=by simp [Program.cellsOf,hi,hi1]
 have pt:∀ (u1 u2:Int),(part e #[.int .i64 u1,.int .i64 u2] 0).run P w = .ok (.int .i64 u1) w∧(part e #[.int .i64 u1,.int .i64 u2] 1).run P w = .ok (.int .i64 u2) w:=by
  intro u1 u2
  constructor <;> simp [part,UA hag]
 have hq:(Op.equalIn 10000 t (.agg #[.int .i64 m1,.int .i64 m2]) (.agg #[.int .i64 n1,.int .i64 n2])).run P w = .ok (m1 == n1 && m2 == n2) w:=by
  rw [run_equalIn_array w 9999 _ _ h hi,hce]
  have e1:=run_equalIn_int (P:=P) w 9998 e .i64 .i64 m1 n1 he
  have e2:=run_equalIn_int (P:=P) w 9998 e .i64 .i64 m2 n2 he
  simp only [List.range,List.range.loop,Op.eqItems,Nat.zero_mul,Nat.one_mul,xp,(pt m1 m2).1,(pt n1 n2).1,(pt m1 m2).2,(pt n1 n2).2,xi,e1,e2]
  cases (m1 == n1) with
  | false=>simp
  | true=>
    simp only [yS,yD,yb,(pt m1 m2).2,(pt n1 n2).2,xi,e2,z6,xp]
    cases (m2 == n2) <;> simp [e2]
 cases ne
 · simp only [xp,yD,yb,run_eqGuard_agg w _ _ _ _ _ _ hg,xi,run_eql_struct,hq]
   exact ⟨_,rfl,by simp [zR]⟩
 · simp only [xp,z5,run_eqGuard_agg w _ _ _ _ _ _ hg,xi,run_neq_struct,hq]
   exact ⟨_,rfl,by simp [zR]⟩
theorem zch {t:Tok} {i:Nat} {q:List Nat} {vs:List V} {f:Nat} {c:V} {b off o:Nat} {fz:Nat×Nat} (hf:vs[f]?=some c) (ho:Sh.sizes (V.shapes (vs.take f))=o)
    (hp:Wp S τ t i q (V.agg vs).shape b off fz):Wp S τ t i (q++[f]) c.shape b (off + o) fz:=by
 have key:∀ (vs:List V) (f o:Nat) (c:V),vs[f]?=some c→Sh.sizes (V.shapes (vs.take f))=o→Sh.offs (V.shapes vs) f []=some (o,c.shape):=by
  intro vs
  induction vs with
  | nil=>intro f o c h;simp at h
  | cons v vs ih=>
    intro f o c h ho
    cases f with
    | zero=>
      simp at h;subst h
      simp [V.shapes,Sh.sizes] at ho
      subst ho
      simp [V.shapes,Sh.offs,Jl]
    | succ f=>
      simp only [List.getElem?_cons_succ] at h
      simp only [List.take_succ_cons,V.shapes,Sh.sizes] at ho
      simp only [V.shapes,Sh.offs,ih f _ c h rfl,yU]
      simp only [zn,Prod.mk.injEq,and_true]
      omega
 have key2:∀ (h:Sh) (q:List Nat) (o1:Nat) (hs:List Sh) (f o2:Nat) (g:Sh),h.off q=some (o1,.ag hs)→Sh.offs hs f []=some (o2,g)→h.off (q++[f])=some (o1 + o2,g):=by
  intro h q
  exact NV h q
 cases t with
 | nl=>exact hp
 | sh=>exact hp
 | _=>
   obtain ⟨h1,h2,o',h3,h4⟩:=hp
   refine ⟨h1,h2,o' + o,key2 _ _ _ _ _ _ _ h3 (key vs f o c hf ho),by omega⟩
theorem Y8:∀ (vs:List V) (f:Nat) (c:V) (cs:List Value),yC w S τ vs cs→vs[f]?=some c →
    zT w S τ c ((cs.drop (Sh.sizes (V.shapes (vs.take f)))).take c.shape.size)∧Sh.sizes (V.shapes (vs.take f)) + c.shape.size≤cs.length
 | [],f,c,cs,_,h=>by simp at h
 | v :: vs,0,c,cs,hr,h=>by
   simp at h;subst h
   simp only [yC] at hr
   have:=vE _ _ _ _ _ hr.1
   simp at this
   simp [V.shapes,Sh.sizes]
   exact ⟨hr.1,by omega⟩
 | v :: vs,f + 1,c,cs,hr,h=>by
   simp only [List.getElem?_cons_succ] at h
   simp only [yC] at hr
   have ih:=Y8 vs f c _ hr.2 h
   have:=vE _ _ _ _ _ hr.1
   simp at this
   simp only [List.take_succ_cons,V.shapes,Sh.sizes]
   rw [List.drop_drop] at ih
   refine ⟨ih.1,?_⟩
   have h2:=ih.2
   simp at h2
   omega
theorem Y3:∀ (vs:List V) (f:Nat) (c:V),vs[f]?=some c→∀ k∈c.toks,k∈V.tokss vs
 | [],f,c,h=>by simp at h
 | v :: vs,0,c,h=>by
   simp at h;subst h
   intro k hk;simp [V.tokss,hk]
 | v :: vs,f + 1,c,h=>by
   simp only [List.getElem?_cons_succ] at h
   intro k hk
   simp [V.tokss,Y3 vs f c h k hk]
theorem KL {vs:List V} {f:Nat} {c:V} (h:vs[f]?=some c) (hn:V.tokss vs=[]):c.toks=[]:=by
 cases hc:c.toks with
 | nil=>rfl
 | cons k ks=>
   have:=Y3 vs f c h k (by simp [hc])
   rw [hn] at this;cases this
theorem Z5 {t i q c} {v:Value} (h:zR w S τ (.ref t i q c) v):∃ b off arr ty fz,v = .pointer (some ⟨b,off,none⟩)∧w.heap[b]?=some (.cells arr ty fz) ∧
      Wp S τ t i q c.shape b off fz∧off + c.shape.size≤arr.size∧(t = .sh→c.toks=[])∧zT w S τ c ((arr.toList.drop off).take c.shape.size):=by
 simp only [zR,zT] at h
 obtain ⟨b,off,arr,ty,fz,e,h⟩:=h
 simp at e
 exact ⟨b,off,arr,ty,fz,e,h⟩
theorem zj8 {t:TypeId} {x:Value} {tk i q c} (hx:zR w S τ (.ref tk i q c) x) (ha:Lb P t=some c.shape.isAg) (hs:vD P t=some c.shape.size) :
    ∃ r,(Instr.loadAt t x).run P w = .ok r w∧zR w S τ c r:=by
 obtain ⟨b,off,arr,ty,fz,rfl,hw,hp,hle,hsh,hr⟩:=Z5 hx
 obtain ⟨r,h1,h2⟩:=Mr hw hle hr ha hs
 exact ⟨r,by simp [Instr.loadAt,Instr.sureAddr,h1],h2⟩
theorem zcV {tk i q vs f o} {c:V} {x:Value} (hx:zR w S τ (.ref tk i q (.agg vs)) x) (hf:vs[f]?=some c) (ho:Sh.sizes (V.shapes (vs.take f))=o) :
    ∃ b off,x = .pointer (some ⟨b,off,none⟩)∧zR w S τ (.ref tk i (q++[f]) c) (.pointer (some ⟨b,off + o,none⟩)):=by
 obtain ⟨b,off,arr,ty,fz,rfl,hw,hp,hle,hsh,hr⟩:=Z5 hx
 simp only [zT] at hr
 have hg:=Y8 vs f c _ hr hf
 rw [ho] at hg
 have hlen:((arr.toList.drop off).take (V.agg vs).shape.size).length=(V.agg vs).shape.size:=by simp;omega
 rw [hlen] at hg
 refine ⟨b,off,rfl,?_⟩
 simp only [zR,zT]
 refine ⟨b,off + o,arr,ty,fz,rfl,hw,zch hf ho hp,by omega,fun h=>KL hf (by simpa [V.toks] using hsh h),?_⟩
 have e:(((arr.toList.drop off).take (V.agg vs).shape.size).drop o).take c.shape.size=(arr.toList.drop (off + o)).take c.shape.size:=by
  rw [List.drop_take,List.take_take,List.drop_drop]
  congr 1;omega
 rw [← e];exact hg.1
theorem zkX {t:TypeId} {x:Value} {tk i q vs f o} {c:V} {fields:Array Field} {fd:Field} {n:Nat} (hx:zR w S τ (.ref tk i q (.agg vs)) x) (hf:vs[f]?=some c) (ho:Sh.sizes (V.shapes (vs.take f))=o)
    (hu:P.underlying t=some (.struct fields)) (hfd:fields[f]?=some fd) (hoff:fd.offset=o) (hn:vD P fd.type=some n) (hn0:n≠0) :
    ∃ r,(Instr.fieldAt t x f).run P w = .ok r w∧zR w S τ (.ref tk i (q++[f]) c) r:=by
 obtain ⟨b,off,rfl,h⟩:=zcV hx hf ho
 refine ⟨_,?_,h⟩
 simp [Instr.fieldAt,run_underlying hu,hfd,Instr.sureAddr,fieldPlace,uy hn,hn0,WQ,hoff]
theorem zcT {t:TypeId} {x:Value} {vs f o} {c:V} (hx:zR w S τ (.agg vs) x) (hf:vs[f]?=some c) (ho:Sh.sizes (V.shapes (vs.take f))=o)
    (ha:Lb P t=some c.shape.isAg) (hs:vD P t=some c.shape.size) :
    ∃ cs r,x = .agg cs∧(part t cs o).run P w = .ok r w∧zR w S τ c r:=by
 simp only [zR] at hx
 obtain ⟨arr,rfl,hr⟩:=hx
 have hg:=Y8 vs f c _ hr hf
 rw [ho] at hg
 have hag:=JS (K6 hg.1)
 refine ⟨arr,?_⟩
 cases hc:c.shape.isAg with
 | true=>
   rw [hc] at ha hag
   refine ⟨.agg (arr.extract o (o + c.shape.size)),rfl,?_,?_⟩
   · simp [part,UA ha,uy hs]
   · cases c with
     | agg us=>
       simp only [zT] at hg
       refine ⟨_,rfl,?_⟩
       have e:(arr.extract o (o + (V.agg us).shape.size)).toList=(arr.toList.drop o).take (V.agg us).shape.size:=by
        rw [Array.toList_extract]
        rw [List.extract_eq_take_drop]
        congr 1;omega
       rw [e];exact hg.1
     | _=>simp [V.isAgg] at hag
 | false=>
   rw [hc] at ha hag
   have h1:c.shape.size=1:=by
    cases hsh:c.shape with
    | s=>rfl
    | p=>rfl
    | ag hs=>rw [hsh] at hc;simp [Sh.isAg] at hc
   rw [h1] at hg
   have hlt:o < arr.size:=by have:=hg.2;simp at this;omega
   refine ⟨arr[o],rfl,?_,?_⟩
   · simp [part,UA ha,hlt]
   · have e:(arr.toList.drop o).take 1=[arr[o]]:=by
      apply List.ext_getElem?
      intro k
      rw [U9]
      cases k with
      | zero=>simp [hlt]
      | succ k=>simp
     rw [e] at hg
     exact Ww (by rw [hag]) hg.1
theorem zgT {t:TypeId} {x:Value} {vs f o} {c:V} {fields:Array Field} {fd:Field} (hx:zR w S τ (.agg vs) x) (hf:vs[f]?=some c) (ho:Sh.sizes (V.shapes (vs.take f))=o)
    (hu:P.underlying t=some (.struct fields)) (hfd:fields[f]?=some fd) (hoff:fd.offset=o) (ha:Lb P fd.type=some c.shape.isAg) (hs:vD P fd.type=some c.shape.size) :
    ∃ r,(Instr.field t x f).run P w = .ok r w∧zR w S τ c r:=by
 obtain ⟨cs,r,rfl,h1,h2⟩:=zcT hx hf ho ha hs
 exact ⟨r,by simp [Instr.field,run_underlying hu,hfd,asAgg,hoff,h1],h2⟩
theorem zg3 {t e:TypeId} {x:Value} {vs n} {k:IntKind} {m:Int} {c:V} (hx:zR w S τ (.agg vs) x) (h0:0≤m) (hf:vs[m.toNat]?=some c) (hn:vs.length=n)
    (ho:Sh.sizes (V.shapes (vs.take m.toNat))=m.toNat * c.shape.size)
    (hu:P.underlying t=some (.array n e)) (ha:Lb P e=some c.shape.isAg) (hs:vD P e=some c.shape.size) :
    ∃ r,(Instr.index t x (.int k m)).run P w = .ok r w∧zR w S τ c r:=by
 obtain ⟨cs,r,rfl,h1,h2⟩:=zcT hx hf ho ha hs
 have hlt:m.toNat < vs.length:=by
  rcases Nat.lt_or_ge m.toNat vs.length with h | h
  · exact h
  · rw [Z3 h] at hf;cases hf
 refine ⟨r,?_,h2⟩
 have hc:0≤m∧m < (n:Int):=by omega
 simp [Instr.index,asIntOf,run_underlying hu,hc,uy hs,h1]
theorem XX {t h lo xs} {v:Value} (hv:zR w S τ (.sl t h lo xs) v):∃ a cap,v = .slice a xs.length cap∧xs.length≤cap∧(∀ x∈xs,x.shape=h)∧(t = .sh→V.tokss xs=[]) ∧
      (cap=0∨∃ b off arr ty fz,a=some ⟨b,off,none⟩∧w.heap[b]?=some (.cells arr ty fz)∧KU S τ t h lo b off fz ∧
        off + cap * h.size≤arr.size∧yC w S τ xs ((arr.toList.drop off).take (xs.length * h.size))):=by
 simp only [zR,zT] at hv
 obtain ⟨a,cap,e,rest⟩:=hv
 simp at e
 exact ⟨a,cap,e,rest⟩
theorem Jv {h:Sh} (xs:List V) (n:Nat) (hx:∀ x∈xs,x.shape=h) (hn:n≤xs.length):Sh.sizes (V.shapes (xs.take n))=n * h.size:=by
 rw [YD (h:=h) _ (fun x hm=>hx x (List.mem_of_mem_take hm))]
 simp [Nat.min_eq_left hn]
theorem zli {t e:TypeId} {x:Value} {tk h lo xs} {k:IntKind} {m:Int} {c:V} (hx:zR w S τ (.sl tk h lo xs) x) (h0:0≤m) (hf:xs[m.toNat]?=some c)
    (htk:tk≠.nl∧∀ r,tk≠.bx r) (hu:P.underlying t=some (.slice e)) (hs:vD P e=some h.size) :
    ∃ r,(Instr.indexAt t x (.int k m)).run P w = .ok r w∧zR w S τ (.ref tk (if tk = .sh then 0 else lo + m.toNat) [] c) r:=by
 obtain ⟨a',cap,rfl,hle,hsx,hsh,hh⟩:=XX hx
 have hlt:m.toNat < xs.length:=by
  rcases Nat.lt_or_ge m.toNat xs.length with h | h
  · exact h
  · rw [Z3 h] at hf;cases hf
 rcases hh with h0' | ⟨b,off,arr,ty,fz,rfl,hw,hp,hfit,hr⟩
 · omega
 · have hc:0≤m∧m < (xs.length:Int):=by omega
   have hcs:c.shape=h:=hsx c (List.mem_of_getElem? hf)
   have hg:=Y8 xs m.toNat c _ hr hf
   rw [Jv xs m.toNat hsx (by omega)] at hg
   refine ⟨.pointer (some ⟨b,off + m.toNat * h.size,none⟩),?_,?_⟩
   · simp [Instr.indexAt,asIntOf,run_underlying hu,hc,uy hs,WQ]
   · simp only [zR,zT]
     have hlen:((arr.toList.drop off).take (xs.length * h.size)).length=xs.length * h.size:=by
      have:xs.length * h.size≤cap * h.size:=ud _ hle
      simp;omega
     have hb:xs.length * h.size≤cap * h.size:=ud _ hle
     rw [hlen] at hg
     refine ⟨b,off + m.toNat * h.size,arr,ty,fz,rfl,hw,?_,by rw [hcs] at hg ⊢;omega,fun h=>KL hf (hsh h),?_⟩
     · cases tk with
       | nl=>exact absurd rfl htk.1
       | bx r=>exact absurd rfl (htk.2 r)
       | sh=>exact hp
       | «at» r p=>
         obtain ⟨h1,h2,h3,h4⟩:=hp
         refine ⟨h1,h4,0,?_,?_⟩
         · rw [Jl,h2,hcs]
         · simp only [reduceCtorEq,yb]
           rw [h2,h3,Nat.add_mul];omega
     · have e:(((arr.toList.drop off).take (xs.length * h.size)).drop (m.toNat * h.size)).take c.shape.size=(arr.toList.drop (off + m.toNat * h.size)).take c.shape.size:=by
        rw [List.drop_take,List.take_take,List.drop_drop]
        congr 1;omega
       rw [← e];exact hg.1
theorem ziy {t e:TypeId} {x:Value} {tk j q vs n} {k:IntKind} {m:Int} {c:V} {ez:Nat} (hx:zR w S τ (.ref tk j q (.agg vs)) x) (h0:0≤m) (hf:vs[m.toNat]?=some c) (hn:vs.length=n)
    (ho:Sh.sizes (V.shapes (vs.take m.toNat))=m.toNat * ez) (hu:P.underlying t=some (.array n e)) (hs:vD P e=some ez) :
    ∃ r,(Instr.indexAt t x (.int k m)).run P w = .ok r w∧zR w S τ (.ref tk j (q++[m.toNat]) c) r:=by
 obtain ⟨b,off,rfl,h⟩:=zcV hx hf ho
 have hlt:m.toNat < vs.length:=by
  rcases Nat.lt_or_ge m.toNat vs.length with h | h
  · exact h
  · rw [Z3 h] at hf;cases hf
 have hc:0≤m∧m < (n:Int):=by omega
 refine ⟨_,?_,h⟩
 simp [Instr.indexAt,asIntOf,run_underlying hu,Instr.sureAddr,hc,uy hs,WQ]
end
section
variable {P:Program} {w:World} {S:Nat→Prop} {τ:Tok→Blk} {s:Nat→V} {a:Act}
theorem XA:∀ (xs ys:List V) (cs:List Value),yC w S τ (xs++ys) cs↔yC w S τ xs (cs.take (Sh.sizes (V.shapes xs)))∧yC w S τ ys (cs.drop (Sh.sizes (V.shapes xs)))
 | [],ys,cs=>by simp [yC,V.shapes,Sh.sizes]
 | x :: xs,ys,cs=>by
   simp only [XE,yC,V.shapes,Sh.sizes]
   rw [XA xs ys]
   rw [List.take_take,List.drop_take,List.drop_drop,Nat.min_eq_left (by omega),Nat.add_sub_cancel_left]
   constructor
   · rintro ⟨h1,h2,h3⟩;exact ⟨⟨h1,h2⟩,h3⟩
   · rintro ⟨⟨h1,h2⟩,h3⟩;exact ⟨h1,h2,h3⟩
theorem zaI {h:Sh} {xs:List V} {cs:List Value} (hx:∀ x∈xs,x.shape=h) (hr:yC w S τ xs cs) {i n:Nat} (hn:i + n≤xs.length) :
    yC w S τ ((xs.drop i).take n) ((cs.drop (i * h.size)).take (n * h.size)):=by
 have e1:xs=xs.take i++xs.drop i:=(Y5 i xs).symm
 rw [e1,XA,Jv xs i hx (by omega)] at hr
 have e2:xs.drop i=(xs.drop i).take n++(xs.drop i).drop n:=(Y5 n _).symm
 have hr2:=hr.2
 rw [e2,XA,Jv (h:=h) (xs.drop i) n (fun x hm=>hx x (List.mem_of_mem_drop hm)) (by simp;omega)] at hr2
 exact hr2.1
theorem Q5 {xs ys:List V} (h:∀ x∈ys,x∈xs):∀ k∈V.tokss ys,k∈V.tokss xs:=by
 have key:∀ (l:List V) k,k∈V.tokss l↔∃ x∈l,k∈x.toks:=by
  intro l k
  induction l with
  | nil=>simp [V.tokss]
  | cons x l ih=>simp [V.tokss,ih]
 intro k hk
 rw [key] at hk ⊢
 obtain ⟨x,hx,hk⟩:=hk
 exact ⟨x,h x hx,hk⟩
theorem N3 {xs ys:List V} (h:∀ x∈ys,x∈xs) (hn:V.tokss xs=[]):V.tokss ys=[]:=by
 cases hc:V.tokss ys with
 | nil=>rfl
 | cons k ks=>
   have:=Q5 h k (by simp [hc])
   rw [hn] at this;cases this
theorem Ua {k:IntKind} {n:Int} {y:Nat} {code:BoundsCode} (h0:0≤n) (h1:n≤y):(Instr.sliceBound (.int k n) y code).run P w = .ok n.toNat w:=by
 have:0≤n∧n≤(y:Int):=⟨h0,h1⟩
 simp [Instr.sliceBound,asIntOf,this]
theorem zgF {t e:TypeId} {x:Value} {tk h lo xs} {low high:Option Value} {i j:Nat} (hx:zR w S τ (.sl tk h lo xs) x)
    (hlow:(low=none∧i=0)∨∃ k n,low=some (.int k n)∧0≤n∧n.toNat=i) (hhigh:(high=none∧j=xs.length)∨∃ k n,high=some (.int k n)∧0≤n∧n.toNat=j)
    (hij:i≤j) (hj:j≤xs.length) (htk:∀ r,tk≠.bx r) (hu:P.underlying t=some (.slice e)) (hs:vD P e=some h.size) :
    ∃ r,(Instr.sliceAt t x low high none).run P w = .ok r w∧zR w S τ (.sl tk h (if tk = .sh then 0 else lo + i) ((xs.drop i).take (j - i))) r:=by
 obtain ⟨a',cap,rfl,hle,hsx,hsh,hh⟩:=XX hx
 have hb:(Instr.sliceBounds true xs.length cap low high none).run P w = .ok (i,j,cap) w:=by
  unfold Instr.sliceBounds
  rcases hhigh with ⟨rfl,rfl⟩ | ⟨k,n,rfl,h0,rfl⟩
  · rcases hlow with ⟨rfl,rfl⟩ | ⟨k,n,rfl,h0,rfl⟩
    · simp
    · have:=Ua (P:=P) (w:=w) (k:=k) (n:=n) (y:=xs.length) (code:=.sliceB) h0 (by omega)
      simp [this]
  · have e1:=Ua (P:=P) (w:=w) (k:=k) (n:=n) (y:=cap) (code:=.sliceAcap) h0 (by omega)
    rcases hlow with ⟨rfl,rfl⟩ | ⟨k',n',rfl,h0',rfl⟩
    · simp [e1]
    · have e2:=Ua (P:=P) (w:=w) (k:=k') (n:=n') (y:=n.toNat) (code:=.sliceB) h0' (by omega)
      simp [e1,e2]
 have hlen:((xs.drop i).take (j - i)).length=j - i:=by simp;omega
 have hmem:∀ x∈(xs.drop i).take (j - i),x∈xs:=fun x hm=>List.mem_of_mem_drop (List.mem_of_mem_take hm)
 refine ⟨.slice (if cap=i then a' else a'.map (·.add (i * h.size))) (j - i) (cap - i),?_,?_⟩
 · simp [Instr.sliceAt,Instr.slice,run_underlying hu,hb,uy hs]
 · simp only [zR,zT,hlen]
   refine ⟨_,cap - i,rfl,by omega,fun x hm=>hsx x (hmem x hm),?_,?_⟩
   · intro h
     have:tk = .sh:=h
     exact N3 hmem (hsh this)
   · rcases hh with h0' | ⟨b,off,arr,ty,fz,rfl,hw,hp,hfit,hr⟩
     · left;omega
     · by_cases hc:cap - i=0
       · exact .inl hc
       · right
         rw [zy (by omega)]
         have hm:i * h.size + (cap - i) * h.size=cap * h.size:=by rw [← Nat.add_mul];congr 1;omega
         refine ⟨b,off + i * h.size,arr,ty,fz,by simp [WQ],hw,?_,by omega,?_⟩
         · cases tk with
           | nl=>exact hp
           | sh=>exact hp
           | bx r=>exact absurd rfl (htk r)
           | «at» r p=>
             obtain ⟨h1,h2,h3,h4⟩:=hp
             refine ⟨h1,h2,?_,h4⟩
             simp only [reduceCtorEq,yb]
             rw [h3,Nat.add_mul];omega
         · have:=zaI hsx hr (i:=i) (n:=j - i) (by omega)
           have hb2:(j - i) * h.size + i * h.size≤xs.length * h.size:=by rw [← Nat.add_mul];exact ud _ (by omega)
           rw [List.drop_take,List.take_take,List.drop_drop,Nat.min_eq_left (by omega)] at this
           exact this
theorem Nt {t e:TypeId} {x:Value} {tk j q vs n} {h:Sh} (hx:zR w S τ (.ref tk j q (.agg vs)) x) (hn:vs.length=n) (hvs:∀ v∈vs,v.shape=h)
    (hu:P.underlying t=some (.array n e)) (hs:vD P e=some h.size) (htk:tk = .sh∨∃ r,tk = .bx r) :
    ∃ r,(Instr.sliceAt t x none none none).run P w = .ok r w∧zR w S τ (.sl tk h 0 vs) r:=by
 obtain ⟨b,off,arr,ty,fz,rfl,hw,hp,hle,hsh,hr⟩:=Z5 hx
 refine ⟨.slice (some ⟨b,off,none⟩) n n,?_,?_⟩
 · have:(Instr.sliceBounds false n n none none none).run P w = .ok (0,n,n) w:=by simp [Instr.sliceBounds]
   simp [Instr.sliceAt,run_underlying hu,Instr.sureAddr,this,uy hs,WQ]
 · subst hn
   have hsz:(V.agg vs).shape.size=vs.length * h.size:=by simp only [V.shape,Sh.size];exact YD vs hvs
   rw [hsz] at hle hr
   simp only [zT] at hr
   simp only [zR,zT]
   refine ⟨_,_,rfl,xF _,hvs,fun h=>by simpa [V.toks] using hsh h,.inr ⟨b,off,arr,ty,fz,rfl,hw,?_,hle,hr⟩⟩
   rcases htk with rfl | ⟨r,rfl⟩
   · exact hp
   · exact ⟨hp.1,hp.2.1⟩
theorem zkV {t e:TypeId} {x:Value} {tk h lo xs} (hx:zR w S τ (.sl tk h lo xs) x) (hu:P.underlying t=some (.slice e)) (ty:TypeId) :
    (Builtin.len_ #[t] ty #[x]).run P w = .ok (.int .i64 xs.length) w:=by
 obtain ⟨a',cap,rfl,_⟩:=XX hx
 simp [Builtin.len_,run_underlying hu,goInt]
theorem UH {h:Sh} (ht:Mz w S τ s a):∀ (xs:List Operand) (os:List O) (vs:List V),xs.mapM (cO h)=some os→Z0 s os=some vs →
    yB w S τ vs (xs.map a.eval)∧(∀ k∈V.tokss vs,∃ t,k∈(s t).toks∧(s t).ok=true)∧∀ v∈vs,v.ok=true
 | [],os,vs,e,hr=>by
   simp at e;subst e
   simp [Z0] at hr;subst hr
   simp [yB,V.tokss]
 | x :: xs,os,vs,e,hr=>by
   simp only [List.mapM_cons,bind,Option.bind_eq_some_iff,pure,zn] at e
   obtain ⟨o,ho,os',hos,rfl⟩:=e
   simp only [Z0] at hr
   split at hr
   · rename_i v vs' hv hvs
     simp at hr;subst hr
     have ih:=UH ht xs os' vs' hos hvs
     have hf:=Jf ho hv
     refine ⟨?_,?_,?_⟩
     · simp only [yB,List.map_cons]
       exact ⟨_,_,rfl,zbg ho ht hv,ih.1⟩
     · intro k hk
       simp only [V.tokss,zO] at hk
       rcases hk with hk | hk
       · exact hf.1 k hk
       · exact ih.2.1 k hk
     · intro v' hm
       simp only [yf] at hm
       rcases hm with rfl | hm
       · exact hf.2.1
       · exact ih.2.2 v' hm
   · cases hr
theorem zkv:∀ (vs:List V) (cs:List Value) (r:V),MZ vs=some r→yB w S τ vs cs→∃ c,(Builtin.max_ #[] 0 cs.toArray).run P w = .ok c w∧zR w S τ r c:=by
 have key:∀ (vs:List V) (cs:List Value) (k:IntKind) (m:Int) (r:V),vs.foldlM (fun acc v=>match acc,v with
  | .int k a,.int _ b=>some (.int k (if b > a then b else a))
  | _,_=>none) (.int k m)=some r→yB w S τ vs cs→∃ c,(cs.foldlM Builtin.max2 (.int k m)).run P w = .ok c w∧zR w S τ r c:=by
  intro vs
  induction vs with
  | nil=>
    intro cs k m r h hr
    simp [yB] at hr;subst hr
    simp at h;subst h
    exact ⟨.int k m,by simp,by simp [zR]⟩
  | cons v vs ih=>
    intro cs k m r h hr
    simp only [yB] at hr
    obtain ⟨c,cs',rfl,h1,h2⟩:=hr
    cases v with
    | int k' b=>
      simp only [List.foldlM_cons,bind,ze] at h
      obtain ⟨c',hc,hr'⟩:=ih cs' k _ r h h2
      rw [Xk h1]
      exact ⟨c',by simp [Builtin.max2,hc],hr'⟩
    | _=>simp at h
 intro vs cs r h hr
 unfold MZ at h
 split at h
 · rename_i k m rest
   simp only [yB] at hr
   obtain ⟨c,cs',rfl,h1,h2⟩:=hr
   rw [Xk h1]
   obtain ⟨c',hc,hr'⟩:=key rest cs' k m r h h2
   exact ⟨c',by simp [Builtin.max_,hc],hr'⟩
 · cases h
theorem zlE:∀ (vs:List V) (cs:List Value) (r:V),NS vs=some r→yB w S τ vs cs→∃ c,(Builtin.min_ #[] 0 cs.toArray).run P w = .ok c w∧zR w S τ r c:=by
 have key:∀ (vs:List V) (cs:List Value) (k:IntKind) (m:Int) (r:V),vs.foldlM (fun acc v=>match acc,v with
  | .int k a,.int _ b=>some (.int k (if b < a then b else a))
  | _,_=>none) (.int k m)=some r→yB w S τ vs cs→∃ c,(cs.foldlM Builtin.min2 (.int k m)).run P w = .ok c w∧zR w S τ r c:=by
  intro vs
  induction vs with
  | nil=>
    intro cs k m r h hr
    simp [yB] at hr;subst hr
    simp at h;subst h
    exact ⟨.int k m,by simp,by simp [zR]⟩
  | cons v vs ih=>
    intro cs k m r h hr
    simp only [yB] at hr
    obtain ⟨c,cs',rfl,h1,h2⟩:=hr
    cases v with
    | int k' b=>
      simp only [List.foldlM_cons,bind,ze] at h
      obtain ⟨c',hc,hr'⟩:=ih cs' k _ r h h2
      rw [Xk h1]
      exact ⟨c',by simp [Builtin.min2,hc],hr'⟩
    | _=>simp at h
 intro vs cs r h hr
 unfold NS at h
 split at h
 · rename_i k m rest
   simp only [yB] at hr
   obtain ⟨c,cs',rfl,h1,h2⟩:=hr
   rw [Xk h1]
   obtain ⟨c',hc,hr'⟩:=key rest cs' k m r h h2
   exact ⟨c',by simp [Builtin.min_,hc],hr'⟩
 · cases h
end
section
variable {P:Program} {w:World} {S:Nat→Prop} {τ:Tok→Blk} {s:Nat→V} {a:Act}
theorem zcr (off:Nat):∀ (l:List Value) (k:Nat) (cells:Array Value),off + k + l.length≤cells.size →
    ((l.zipIdx k).foldl (fun cs (x:Value×Nat)=>cs.setIfInBounds (off + x.2) x.1) cells).toList=Zy cells.toList (off + k) l
 | [],k,cells,h=>by simp [Zy]
 | v :: l,k,cells,h=>by
   simp only [List.zipIdx_cons,List.foldl_cons]
   have hk:off + k < cells.size:=by simp at h;omega
   rw [zcr off l (k + 1) _ (by simp at h ⊢;omega)]
   apply List.ext_getElem?
   intro i
   rw [W2 _ _ _ (by simp at h ⊢;omega),W2 _ _ _ (by simp at h ⊢;omega)]
   simp only [ZK,Array.toList_setIfInBounds]
   by_cases h1:off + (k + 1)≤i∧i < off + (k + 1) + l.length
   · rw [if_pos h1,if_pos (by omega)]
     have:i - (off + k)=i - (off + (k + 1)) + 1:=by omega
     rw [this];simp
   · rw [zy h1]
     by_cases h2:i=off + k
     · subst h2
       rw [if_pos (by omega)]
       simp [hk]
     · rw [zy (by omega),List.getElem?_set_ne (by omega)]
theorem zbX (off:Nat) (v cells:Array Value) (h:off + v.size≤cells.size) :
    (v.zipIdx.foldl (fun cs (x:Value×Nat)=>cs.setIfInBounds (off + x.2) x.1) cells).toList=Zy cells.toList off v.toList:=by
 rw [← Array.foldl_toList,Array.toList_zipIdx]
 have:=zcr off v.toList 0 cells (by simpa using h)
 simpa using this
theorem LJ:∀ (vs:List V) (f:Nat) (u:V),V.setPs vs f [] u=vs.set f u
 | [],_,_=>by simp [V.setPs]
 | v :: vs,0,u=>by cases v <;> simp [V.setPs,V.setP]
 | v :: vs,f + 1,u=>by simp [V.setPs,LJ vs f u]
theorem zjZ {vs:List V} {f:Nat} {c:V} (hf:vs[f]?=some c):Sh.offs (V.shapes vs) f []=some (Sh.sizes (V.shapes (vs.take f)),c.shape):=by
 induction vs generalizing f with
 | nil=>simp at hf
 | cons v vs ih=>
   cases f with
   | zero=>
     simp at hf;subst hf
     simp [V.shapes,Sh.offs,Jl,Sh.sizes]
   | succ f=>
     simp only [List.getElem?_cons_succ] at hf
     simp [V.shapes,Sh.offs,ih hf,Sh.sizes]
def zcS (place:Nat→Option (Nat×Nat)) (hs:Nat→Sh) (x:Nat×Operand):Option (Nat×Nat×O):=
 match place x.1,cO (hs x.1) x.2 with
 | some (off,_),some o=>some (x.1,off,o)
 | _,_=>none
theorem NT (place:Nat→Option (Nat×Nat)) (hs:Nat→Sh):∀ (xs:List (Nat×Operand)) (ps:List (Nat×Nat×O)) (vs r:List V) (cells:Array Value),xs.mapM (zcS place hs)=some ps→xX s ps vs=some r →
    (∀ i u,vs[i]?=some u→∃ off,place i=some (off,u.shape.size))→Mz w S τ s a→yC w S τ vs cells.toList →
    ∃ cells',Instr.fill place cells (xs.map fun x=>(x.1,a.eval x.2))=some cells'∧yC w S τ r cells'.toList∧V.shapes r=V.shapes vs ∧
     ∀ k∈V.tokss r,k∈V.tokss vs∨∃ t,k∈(s t).toks∧(s t).ok=true
 | [],ps,vs,r,cells,hc,h,_,_,hr=>by
   simp at hc;subst hc
   simp [xX] at h;subst h
   exact ⟨cells,rfl,hr,rfl,fun k hk=>.inl hk⟩
 | (f,x) :: xs,ps,vs,r,cells,hc,h,hp,ht,hr=>by
   simp only [List.mapM_cons,bind,Option.bind_eq_some_iff,pure,zn] at hc
   obtain ⟨p,hp0,ps',hps,rfl⟩:=hc
   unfold zcS at hp0
   split at hp0
   · rename_i off sz o hpl ho
     simp at hp0;subst hp0
     simp only [xX] at h
     split at h
     · rename_i v old hv hold
       split at h
       · rename_i hcond
         simp only [zp,ym] at hcond
         have hsh:v.shape=old.shape:=Sh.beq_eq _ _ hcond.1.2
         obtain ⟨off',hpl'⟩:=hp f old hold
         rw [hpl] at hpl'
         simp at hpl'
         obtain ⟨rfl,rfl⟩:=hpl'
         have hv1:=zbg ho ht hv
         have hfr:=Jf ho hv
         have hvc:zT w S τ v (a.eval x).cells.toList:=U6 hv1 hfr.2.1 (by rintro us rfl;simp [V.mem] at hcond) (by rintro rfl;simp [V.mem] at hcond)
         have hlv:=vE _ _ _ _ _ hvc
         have hg:=Y8 vs f old _ hr hold
         rw [hcond.2] at hg
         have hset:=UF w S τ vs f [] v cells.toList (a.eval x).cells.toList off v.shape hr (by rw [zjZ hold,hcond.2,hsh]) hvc rfl
         rw [LJ] at hset
         have hfit:off + (a.eval x).cells.size≤cells.size:=by
          have h1:=hg.2
          simp at h1 hlv
          rw [hlv,hsh];exact h1
         obtain ⟨cells',hfill,hrel,hshapes,htoks⟩:=NT place hs xs ps' (vs.set f v) r ((a.eval x).cells.zipIdx.foldl (fun cs (x:Value×Nat)=>cs.setIfInBounds (off + x.2) x.1) cells) hps h (by
          intro i u hu
          by_cases hif:i=f
          · subst hif
            have hlt:i < vs.length:=by
             rcases Nat.lt_or_ge i vs.length with h | h
             · exact h
             · rw [Z3 h] at hold;cases hold
            rw [List.getElem?_set_self hlt] at hu
            simp at hu;subst hu
            rw [hsh];exact ⟨off,hpl⟩
          · rw [List.getElem?_set_ne (fun e=>hif e.symm)] at hu
            exact hp i u hu) ht (by rw [zbX off _ _ hfit];exact hset.1)
         refine ⟨cells',?_,hrel,by rw [hshapes];exact hset.2,?_⟩
         · simp only [List.map_cons,Instr.fill,hpl]
           have hne:¬ ((a.eval x).cells.size≠old.shape.size):=by simp at hlv ⊢;rw [hlv,hsh]
           have hne2:¬ (off + (a.eval x).cells.size > cells.size):=by omega
           simp only [hne,hne2,decide_false,Yp,yD,yb]
           exact hfill
         · intro k hk
           rcases htoks k hk with h | h
           · rw [← LJ] at h
             rcases Jg vs f [] v k h with h | h
             · exact .inl h
             · exact .inr (hfr.1 k h)
           · exact .inr h
       · cases h
     · cases h
   · cases hp0
theorem zgI {t:TypeId} {xs:Array (Nat×Operand)} {ps:List (Nat×Nat×O)} {vs r:List V} {info:TypeInfo} {z:Value} {place:Nat→Option (Nat×Nat)} {hs:Nat→Sh}
    (hi:P.info? t=some info) (hz:info.zero=some z) (hzr:yC w S τ vs z.cells.toList)
    (hplace:(∃ fields sizes,P.underlying t=some (.struct fields)∧(fields.mapM fun f=>do pure (f.offset,← sizeOf f.type):Sem (Array (Nat×Nat))).run P w = .ok sizes w∧place=(sizes[·]?)) ∨
      (∃ n e sz,P.underlying t=some (.array n e)∧vD P e=some sz∧place=fun i=>some (i * sz,sz)))
    (hc:xs.toList.mapM (zcS place hs)=some ps) (hb:xX s ps vs=some r) (hp:∀ i u,vs[i]?=some u→∃ off,place i=some (off,u.shape.size)) (ht:Mz w S τ s a) :
    ∃ c,(Instr.build t (xs.map fun (i,x)=>(i,a.eval x))).run P w = .ok c w∧zR w S τ (.agg r) c∧∀ k∈V.tokss r,k∈V.tokss vs∨∃ t,k∈(s t).toks∧(s t).ok=true:=by
 obtain ⟨cells',hfill,hrel,_,htk⟩:=NT place hs xs.toList ps vs r z.cells hc hb hp ht hzr
 have hzv:(zeroValue t).run P w = .ok z w:=by simp [zeroValue,typeInfo,hi,hz]
 have hl:(xs.map fun (i,x)=>(i,a.eval x)).toList=xs.toList.map fun x=>(x.1,a.eval x.2):=by simp
 refine ⟨.agg cells',?_,⟨cells',rfl,hrel⟩,htk⟩
 rcases hplace with ⟨fields,sizes,hu,hsz,rfl⟩ | ⟨n,e,sz,hu,hsz,rfl⟩
 · simp only [Instr.build,xp,hzv,xi,run_underlying hu,hsz,hl,hfill,Sem.run_pure]
 · simp only [Instr.build,xp,hzv,xi,run_underlying hu,uy hsz,hl,hfill,Sem.run_pure]
theorem zbI {v:V} (h:v.mem=true):v.ok=true:=by cases v <;> first | rfl | simp [V.mem] at h
theorem MR {v:V} (h:v.mem=true):∀ xs,v≠.tup xs:=by rintro xs rfl;simp [V.mem] at h
theorem K1 {v:V} (h:v.mem=true):v≠.dead:=by rintro rfl;simp [V.mem] at h
theorem zlk {v:V} (h:v.isAgg=true):v.mem=true:=by cases v <;> first | rfl | simp [V.isAgg] at h
theorem zde {v:V} (h:v.one=true):v.shape.size=1:=by cases v <;> first | rfl | simp [V.one] at h
theorem zen {v:V} (h:v.one=true):v.isAgg=false:=by cases v <;> first | rfl | simp [V.one] at h
theorem zc1 {v:V} (h:v.one=true) (hm:v.mem=true) {arr:Array Value} (hr:zR w S τ v (.agg arr)):False:=by
 cases v <;> simp [V.one,V.mem] at h hm <;> simp [zR,zT] at hr
theorem zn0 {f:Nat} {us vs:List V} {fs cs:List Value} (hu:yB w S τ us fs) (hv:yB w S τ vs cs) (h1:vs.all (fun v=>v.one && v.mem)=true) (h2:us.all (fun u=>(u.one && u.mem) || u.isAgg)=true) :
    zR w S τ (.fn f us vs) (.func (.func f) fs.toArray cs.toArray):=by
 simp only [zR,zT]
 refine ⟨_,_,rfl,?_,?_⟩
 · have key:∀ (us:List V) (fs:List Value),yB w S τ us fs→us.all (fun u=>(u.one && u.mem) || u.isAgg)=true→vY w S τ us fs:=by
    intro us
    induction us with
    | nil=>intro fs h _;simpa [yB,vY] using h
    | cons u us ih=>
      intro fs h ha
      simp only [yB] at h
      obtain ⟨c,cs',rfl,hc,hcs⟩:=h
      simp only [List.all_cons,zp,y8] at ha
      simp only [vY]
      refine ⟨c,cs',rfl,?_,?_,ih cs' hcs ha.2⟩
      · have hm:u.mem=true:=by rcases ha.1 with h | h;exact h.2;exact zlk h
        exact U6 hc (zbI hm) (MR hm) (K1 hm)
      · constructor
        · intro hg
          cases u with
          | agg xs=>simp only [zR] at hc;obtain ⟨arr,rfl,_⟩:=hc;exact ⟨arr,rfl⟩
          | _=>simp [V.isAgg] at hg
        · rintro ⟨arr,rfl⟩
          rcases ha.1 with h | h
          · exact (zc1 h.1 h.2 hc).elim
          · exact h
   simpa using key us fs hu h2
 · have key:∀ (vs:List V) (cs:List Value),yB w S τ vs cs→vs.all (fun v=>v.one && v.mem)=true→yC w S τ vs cs:=by
    intro vs
    induction vs with
    | nil=>intro cs h _;simpa [yB,yC] using h
    | cons v vs ih=>
      intro cs h ha
      simp only [yB] at h
      obtain ⟨c,cs',rfl,hc,hcs⟩:=h
      simp only [List.all_cons,zp] at ha
      have hsz:v.shape.size=1:=zde ha.1.1
      simp only [yC,hsz,List.take_succ_cons,List.take_zero,List.drop_succ_cons,List.drop_zero]
      exact ⟨zbY hc (zbI ha.1.2) (MR ha.1.2) (K1 ha.1.2) (zen ha.1.1),ih cs' hcs ha.2⟩
   simpa using key vs cs hv h1
end
def shT (P:Program):Nat→TypeId→Option Sh
 | 0,_=>none
 | n + 1,t=>match P.underlying t with
   | some .bool | some (.int _)=>some .s
   | some (.slice _) | some (.pointer _) | some (.func ..) | some (.map ..)=>some .p
   | some (.array k e)=>(shT P n e).map fun h=>.ag (List.replicate k h)
   | some (.struct fs)=>(fs.toList.mapM fun f=>shT P n f.type).map .ag
   | _=>none
def shE (P:Program) (t:TypeId):Sh:=match P.underlying t with
 | some (.slice e)=>(shT P 6 e).getD .s
 | _=>.s
def zV (P:Program):Nat→TypeId→Option V
 | 0,_=>none
 | n + 1,t=>match P.underlying t with
   | some .bool=>some (.bool false)
   | some (.int k)=>some (.int k 0)
   | some (.slice e)=>some (.sl .nl ((shT P 6 e).getD .s) 0 [])
   | some (.func ..)=>some .dead
   | some (.array k e)=>(zV P n e).map fun z=>.agg (List.replicate k z)
   | some (.struct fs)=>(fs.toList.mapM fun f=>zV P n f.type).map .agg
   | _=>none
mutual
def N4:V→List Value→Bool
 | .int k n,[.int k' n']=>k == k' && n == n'
 | .bool b,[.bool b']=>b == b'
 | .sl .nl _ _ [],[.slice none 0 0]=>true
 | .dead,[.nilFunc]=>true
 | .agg vs,cs=>Qu vs cs
 | _,_=>false
def Qu:List V→List Value→Bool
 | [],[]=>true
 | v :: vs,cs=>N4 v (cs.take v.shape.size) && Qu vs (cs.drop v.shape.size)
 | _,_=>false
end
mutual
theorem Lf {w S τ}:∀ (v:V) (cs:List Value),N4 v cs=true→zT w S τ v cs∧v.toks=[]
 | .int k n,cs,h=>by
   unfold N4 at h;split at h <;> simp_all [zT,V.toks]
 | .bool b,cs,h=>by
   unfold N4 at h;split at h <;> simp_all [zT,V.toks]
 | .agg vs,cs,h=>by
   have:=LV (w:=w) (S:=S) (τ:=τ) vs cs (by simpa [N4] using h)
   simpa [zT,V.toks] using this
 | .sl t g lo xs,cs,h=>by
   unfold N4 at h
   split at h <;> simp_all
   rename_i h1
   obtain ⟨rfl,rfl,rfl,rfl⟩:=h1
   simp only [zT]
   exact ⟨⟨none,0,rfl,by simp,by simp,by simp,.inl rfl⟩,by simp [V.toks,V.tokss]⟩
 | .dead,cs,h=>by
   unfold N4 at h
   split at h <;> simp_all [zT,V.toks,Value.oneCell']
 | .ref ..,_,h | .gone,_,h | .lin _,_,h | .tup _,_,h | .fn ..,_,h=>by simp [N4] at h
theorem LV {w S τ}:∀ (vs:List V) (cs:List Value),Qu vs cs=true→yC w S τ vs cs∧V.tokss vs=[]
 | [],[],_=>by simp [yC,V.tokss]
 | [],_ :: _,h=>by simp [Qu] at h
 | v :: vs,cs,h=>by
   simp only [Qu,zp] at h
   have h1:=Lf (w:=w) (S:=S) (τ:=τ) v _ h.1
   have h2:=LV (w:=w) (S:=S) (τ:=τ) vs _ h.2
   simp [yC,V.tokss,h1,h2]
end
def JV (P:Program) (fs:Array Field):Option (Array (Nat×Nat)):=fs.mapM fun f=>(vD P f.type).map fun n=>(f.offset,n)
def zjF (P:Program) (t:TypeId):Option (Nat→Option (Nat×Nat)):=
 match P.underlying t with
 | some (.struct fs)=>(JV P fs).map fun a=>(a[·]?)
 | some (.array _ e)=>(vD P e).map fun sz=>fun i=>some (i * sz,sz)
 | _=>none
def zvm (P:Program) (t:TypeId) (i:Nat):Sh:=
 match P.underlying t with
 | some (.struct fs)=>((fs[i]?).map fun f=>shE P f.type).getD .s
 | some (.array _ e)=>shE P e
 | _=>.s
def J5 (place:Nat→Option (Nat×Nat)) (k:Nat):List V→Bool
 | []=>true
 | v :: vs=>(match place k with
   | some (_,n)=>n == v.shape.size
   | none=>false) && J5 place (k + 1) vs
def cA (P:Program) (op:Op) (ty:TypeId):Option A:=
 match op with
 | .move x | .assign x=>(cO (shE P ty) x).map .mov
 | .pick c x y=>match cO .s c,cO (shE P ty) x,cO (shE P ty) y with
   | some c,some x,some y=>some (.pick c x y)
   | _,_,_=>none
 | .load t x=>match shT P 6 t,cO .s x with
   | some h,some x=>if Lb P t == some h.isAg && vD P t == some h.size then some (.load h x) else none
   | _,_=>none
 | .nilCheck x=>(cO .s x).map .nilc
 | .binOp op t x y _=>match cO .s x,cO .s y with
   | some x,some y=>(match P.underlying t with
     | some .bool=>(match op with
       | .eql=>some (.beq false x y)
       | .neq=>some (.beq true x y)
       | _=>none)
     | some (.int _)=>some (.bin op x y)
     | some (.array 2 e)=>if ((match P.underlying e with | some (.int .i64)=>true | _=>false) && vD P e == some 1) && !P.eqGuardType P.depth t then (match op with
       | .eql=>some (.eqP false x y)
       | .neq=>some (.eqP true x y)
       | _=>none) else none
     | _=>none)
   | _,_=>none
 | .unOp op _ x=>(cO .s x).map (.un op)
 | .convert src dst x=>match P.underlying src,P.underlying dst,cO .s x with
   | some (.int _),some (.int k),some x=>some (.conv k x)
   | _,_,_=>none
 | .makeFunc (.func f) fs cs=>match fs.toList.mapM (cO .s),cs.toList.mapM (cO .s) with
   | some fs,some cs=>some (.fn f fs cs)
   | _,_=>none
 | .fieldAddr t x f=>match P.underlying t,cO .s x with
   | some (.struct fields),some x=>(match fields[f]? with
     | some fd=>(match vD P fd.type with
       | some n=>if n≠0 then some (.fld x f fd.offset) else none
       | none=>none)
     | none=>none)
   | _,_=>none
 | .field t x f=>match P.underlying t,cO .s x with
   | some (.struct fields),some x=>(match fields[f]? with
     | some fd=>(match shT P 6 fd.type with
       | some h=>if Lb P fd.type == some h.isAg && vD P fd.type == some h.size then some (.field x f fd.offset h) else none
       | none=>none)
     | none=>none)
   | _,_=>none
 | .indexAddr t x i=>match P.underlying t,cO .s x,cO .s i with
   | some (.slice e),some x,some i=>(vD P e).map fun n=>.idx x i n
   | some (.array k e),some x,some i=>(vD P e).map fun n=>.idxA x i k n
   | _,_,_=>none
 | .index t x i=>match P.underlying t,cO .s x,cO .s i with
   | some (.array k e),some x,some i=>(match shT P 6 e with
     | some h=>if Lb P e == some h.isAg && vD P e == some h.size then some (.index x i k h) else none
     | none=>none)
   | _,_,_=>none
 | .extract x i=>(cO .s x).map fun x=>match P.underlying ty with | some .bool | some (.int _)=>.extS x i | _=>.ext x i
 | .slice t x lo hi none=>match P.underlying t,cO (shE P t) x with
   | some (.slice e),some x=>(match vD P e,lo.mapM (cO .s),hi.mapM (cO .s) with
     | some n,some lo,some hi=>some (.slice x lo hi n)
     | _,_,_=>none)
   | some (.array k e),some x=>(match shT P 6 e,lo,hi with
     | some h,none,none=>if vD P e == some h.size then some (.sliceA x k h) else none
     | _,_,_=>none)
   | _,_=>none
 | .call { callee:=.builtin .len,args,argTypes }=>match args.toList,argTypes.toList with
   | [x],[t]=>(match P.underlying t,cO (shE P t) x with
     | some (.slice _),some x=>some (.len x)
     | _,_=>none)
   | _,_=>none
 | .call { callee:=.builtin .max,args,.. }=>(args.toList.mapM (cO .s)).map .mx
 | .call { callee:=.builtin .min,args,.. }=>(args.toList.mapM (cO .s)).map .mn
 | .build t ps=>match zjF P t,zV P 6 t,P.info? t with
   | some place,some (.agg vs),some info=>(match info.zero,ps.toList.mapM (zcS place (zvm P t)) with
     | some z,some ps=>if Qu vs z.cells.toList && J5 place 0 vs then some (.bld (.agg vs) ps) else none
     | _,_=>none)
   | _,_,_=>none
 | _=>none
theorem Lp {place:Nat→Option (Nat×Nat)}:∀ (vs:List V) (k i:Nat) (u:V),J5 place k vs=true→vs[i]?=some u→∃ off,place (k + i)=some (off,u.shape.size)
 | [],k,i,u,_,h=>by simp at h
 | v :: vs,k,0,u,ho,h=>by
   simp at h;subst h
   simp only [J5,zp] at ho
   have h1:=ho.1
   split at h1
   · rename_i off n hp
     simp at h1;subst h1
     exact ⟨off,by simpa using hp⟩
   · cases h1
 | v :: vs,k,i + 1,u,ho,h=>by
   simp only [List.getElem?_cons_succ] at h
   simp only [J5,zp] at ho
   obtain ⟨off,e⟩:=Lp vs (k + 1) i u ho.2 h
   exact ⟨off,by rw [← e];congr 1;omega⟩
theorem My {P:Program} {fs:Array Field} {a:Array (Nat×Nat)} (h:JV P fs=some a) (w:World) :
    (fs.mapM fun f=>do pure (f.offset,← sizeOf f.type):Sem (Array (Nat×Nat))).run P w = .ok a w:=by
 have key:∀ (l:List Field) (r:List (Nat×Nat)),(l.mapM fun f=>(vD P f.type).map fun n=>(f.offset,n))=some r →
     (l.mapM fun f=>do pure (f.offset,← sizeOf f.type):Sem (List (Nat×Nat))).run P w = .ok r w:=by
  intro l
  induction l with
  | nil=>intro r h;simp at h;subst h;simp
  | cons f l ih=>
    intro r h
    simp only [List.mapM_cons,bind,Option.bind_eq_some_iff,ye,pure,zn] at h
    obtain ⟨x,⟨n,hn,rfl⟩,r',hr',rfl⟩:=h
    have:=ih r' hr'
    simp only [List.mapM_cons,xp,uy hn,xi,Sem.run_pure,this]
 unfold JV at h
 rw [Array.mapM_eq_mapM_toList] at h ⊢
 cases hl:(fs.toList.mapM fun f=>(vD P f.type).map fun n=>(f.offset,n)) with
 | none=>rw [hl] at h;simp at h
 | some r=>
   rw [hl] at h
   simp at h;subst h
   simp only [Sem.run_map,key _ _ hl,xi]
section
variable {P:Program} {w:World} {S:Nat→Prop} {τ:Tok→Blk} {s:Nat→V} {a:Act}
def zvc (P:Program) (w:World) (S:Nat→Prop) (τ:Tok→Blk) (s:Nat→V) (a:Act) (o:Oper) (v:V):Prop:=
 ∃ c,(execOp a.eval o).run P w = .ok (.value c) w∧zR w S τ v c∧Kg s v∧v.ok=true
theorem WU {k n}:Kg s (.int k n)∧(V.int k n).ok=true:=⟨by intro k h;simp [V.toks] at h,rfl⟩
theorem WJ {b}:Kg s (.bool b)∧(V.bool b).ok=true:=⟨by intro k h;simp [V.toks] at h,rfl⟩
theorem zdb {op k x y v} (h:Wj op k x y=some v):(∃ k n,v = .int k n)∨∃ b,v = .bool b:=by
 cases op <;> simp only [Wj] at h <;> first
  | (simp at h;subst h;first | exact .inl ⟨_,_,rfl⟩ | exact .inr ⟨_,rfl⟩)
  | (split at h <;> simp at h;subst h;exact .inl ⟨_,_,rfl⟩)
  | cases h
theorem zgl {op u u' v} (h:NP op u u'=some v):Kg s v∧v.ok=true:=by
 unfold NP at h
 split at h
 · have:(∃ k n,v = .int k n)∨∃ b,v = .bool b:=by
    rename_i k a k' b
    by_cases hs:op = .shl∨op = .shr
    · rcases hs with rfl | rfl <;> (simp only [J3] at h;split at h <;> simp at h;subst h;exact .inl ⟨_,_,rfl⟩)
    · have h':(if k=k' then Wj op k a b else none)=some v:=by cases op <;> simp_all
      split at h'
      · exact zdb h'
      · cases h'
   rcases this with ⟨k,n,rfl⟩ | ⟨b,rfl⟩
   · exact WU
   · exact WJ
 · cases h
theorem zdf {vs:List V} {r:V} (h:MZ vs=some r∨NS vs=some r):∃ k n,r = .int k n:=by
 have key:∀ (f:Int→Int→Int) (vs:List V) (k:IntKind) (m:Int) (r:V),vs.foldlM (fun acc v=>match acc,v with
  | .int k a,.int _ b=>some (.int k (f a b))
  | _,_=>none) (.int k m)=some r→∃ k n,r = .int k n:=by
  intro f vs
  induction vs with
  | nil=>intro k m r h;simp at h;subst h;exact ⟨_,_,rfl⟩
  | cons v vs ih=>
    intro k m r h
    cases v with
    | int k' b=>
      simp only [List.foldlM_cons,bind,ze] at h
      exact ih _ _ _ h
    | _=>simp at h
 rcases h with h | h
 · unfold MZ at h
   split at h
   · exact key (fun a b=>if b > a then b else a) _ _ _ _ h
   · cases h
 · unfold NS at h
   split at h
   · exact key (fun a b=>if b < a then b else a) _ _ _ _ h
   · cases h
theorem xP {h x o v} (e:cO h x=some o) (ht:Mz w S τ s a) (hr:o.rd s=some v):zR w S τ v (a.eval x)∧Kg s v∧v.ok=true:=
 ⟨zbg e ht hr,(Jf e hr).1,(Jf e hr).2.1⟩
theorem Yq {u v:V} (hu:Kg s u) (h:∀ k∈v.toks,k∈u.toks):Kg s v:=fun k hk=>hu k (h k hk)
theorem Wn {v:V} {cs:List Value} (h:zT w S τ v cs):v.ok=true:=by
 cases v <;> first | rfl | simp [zT] at h
theorem zgd {o:Option O} {x:Option Operand} {d n:Nat} (hc:x.mapM (cO .s)=some o) (ht:Mz w S τ s a) (h:YY s d o=some n) :
    (x.map a.eval=none∧n=d)∨∃ k m,x.map a.eval=some (.int k m)∧0≤m∧m.toNat=n:=by
 cases x with
 | none=>
   simp at hc;subst hc
   simp [YY] at h
   exact .inl ⟨rfl,h.symm⟩
 | some x=>
   simp only [Option.mapM_some,Option.map_eq_map,ye] at hc
   obtain ⟨o',ho,rfl⟩:=hc
   simp only [YY] at h
   split at h
   · rename_i k m hm
     split at h
     · rename_i h0
       simp at h;subst h
       have:=(xP ho ht hm).1
       exact .inr ⟨k,m,by simp [Xk this],h0,rfl⟩
     · cases h
   · cases h
theorem zxr {o:Oper} {A:A} {v:V} (hc:cA P o.op o.type=some A) (he:yy s A=some v) (ht:Mz w S τ s a):zvc P w S τ s a o v:=by
 unfold zvc execOp
 unfold cA at hc
 split at hc
 · -- move
   rename_i x hop
   simp only [ye] at hc
   obtain ⟨o',ho,rfl⟩:=hc
   have:=xP ho ht he
   exact ⟨_,by simp [hop],this⟩
 · -- assign
   rename_i x hop
   simp only [ye] at hc
   obtain ⟨o',ho,rfl⟩:=hc
   have:=xP ho ht he
   exact ⟨_,by simp [hop],this⟩
 · -- pick
   rename_i c x y hop
   split at hc
   · rename_i c' x' y' hc' hx' hy'
     simp at hc;subst hc
     simp only [yy] at he
     split at he
     · rename_i t u u' h1 h2 h3
       simp at he;subst he
       have r1:=xP hc' ht h1
       have r2:=xP hx' ht h2
       have r3:=xP hy' ht h3
       refine ⟨if t then a.eval x else a.eval y,by simp [hop,MO r1.1,asBool],?_⟩
       cases t <;> assumption
     · cases he
   · cases hc
 · -- load
   rename_i t x hop
   split at hc
   · rename_i h x' hh hx
     split at hc
     · rename_i hcond
       simp at hc;subst hc
       simp only [zp,ym] at hcond
       simp only [yy] at he
       split at he
       · rename_i tk i q c hrd
         split at he
         · rename_i hsh
           simp at he;subst he
           have hsh:=Sh.beq_eq _ _ hsh
           have r1:=xP hx ht hrd
           obtain ⟨r,h1,h2⟩:=zj8 (P:=P) (t:=t) r1.1 (by rw [hsh];exact hcond.1) (by rw [hsh];exact hcond.2)
           obtain ⟨b,off,arr,ty,fz,_,_,_,_,_,hr⟩:=Z5 r1.1
           exact ⟨r,by simp [hop,h1],h2,Yq r1.2.1 (by intro k hk;cases tk <;> simp_all [V.toks]),Wn hr⟩
         · cases he
       · cases he
     · cases hc
   · cases hc
 · -- nilCheck
   rename_i x hop
   simp only [ye] at hc
   obtain ⟨o',ho,rfl⟩:=hc
   simp only [yy] at he
   split at he
   · rename_i t i q c hrd
     simp at he;subst he
     have r:=xP ho ht hrd
     obtain ⟨b,off,arr,ty,fz,e,_⟩:=Z5 r.1
     exact ⟨.pointer (some ⟨b,off,none⟩),by simp [hop,e],by rw [← e];exact r.1,r.2⟩
   · rename_i f fs env hrd
     simp at he;subst he
     have r:=xP ho ht hrd
     have h1:=r.1
     simp only [zR,zT] at h1
     obtain ⟨fst,cap,e,_⟩:=h1
     simp at e
     exact ⟨.func (.func f) fst cap,by simp [hop,e],by rw [← e];exact r.1,r.2⟩
   · cases he
 · -- binOp
   rename_i op t x y yt hop
   split at hc
   · rename_i x' y' hx hy
     split at hc
     · rename_i hu
       split at hc
       · simp at hc;subst hc
         simp only [yy] at he
         split at he
         · rename_i m n h1 h2
           simp at he;subst he
           obtain ⟨c,h3,h4⟩:=zfQ (P:=P) (ne:=false) (t:=t) (xP hx ht h1).1 (xP hy ht h2).1 hu
           simp only [yD,yb] at h3 h4
           exact ⟨c,by simp only [hop];rw [xp,h3];simp,h4,WJ⟩
         · cases he
       · simp at hc;subst hc
         simp only [yy] at he
         split at he
         · rename_i m n h1 h2
           simp at he;subst he
           obtain ⟨c,h3,h4⟩:=zfQ (P:=P) (ne:=true) (t:=t) (xP hx ht h1).1 (xP hy ht h2).1 hu
           simp only [z5] at h3 h4
           exact ⟨c,by simp only [hop];rw [xp,h3];simp,h4,WJ⟩
         · cases he
       · cases hc
     · simp at hc;subst hc
       simp only [yy] at he
       split at he
       · rename_i u u' h1 h2
         obtain ⟨c,h3,h4⟩:=zkZ (P:=P) (t:=t) (xP hx ht h1).1 (xP hy ht h2).1 he
         exact ⟨c,by simp only [hop];rw [xp,h3];simp,h4,zgl he⟩
       · cases he
     · rename_i e hu
       split at hc
       · rename_i hu2
         split at hc
         · rename_i hcond
           have hc1:=(zp _ _).mp hcond
           have hg2:P.eqGuardType P.depth t=false:=by simpa using hc1.2
           have hs2:vD P e=some 1:=by simpa using hc1.1
           split at hc
           · simp at hc;subst hc
             simp only [yy] at he
             split at he
             · rename_i m1 m2 n1 n2 h1 h2
               simp only [zn,yD,yb] at he;subst he
               obtain ⟨c,h3,h4⟩:=zeP (P:=P) (ne:=false) (t:=t) (xP hx ht h1).1 (xP hy ht h2).1 hu hu2 hs2 hg2
               simp only [yD,yb] at h3 h4
               exact ⟨c,by simp only [hop];rw [xp,h3];simp,h4,WJ⟩
             · cases he
           · simp at hc;subst hc
             simp only [yy] at he
             split at he
             · rename_i m1 m2 n1 n2 h1 h2
               simp only [zn,z5] at he;subst he
               obtain ⟨c,h3,h4⟩:=zeP (P:=P) (ne:=true) (t:=t) (xP hx ht h1).1 (xP hy ht h2).1 hu hu2 hs2 hg2
               simp only [z5] at h3 h4
               exact ⟨c,by simp only [hop];rw [xp,h3];simp,h4,WJ⟩
             · cases he
           · cases hc
         · cases hc
       · simp at hc
     · cases hc
   · cases hc
 · -- unOp
   rename_i op t x hop
   simp only [ye] at hc
   obtain ⟨o',ho,rfl⟩:=hc
   simp only [yy] at he
   split at he
   · rename_i k n hrd
     simp [Wj] at he;subst he
     exact ⟨_,by simp [hop,Xk (xP ho ht hrd).1,Op.unary,Op.intArith];rfl,by simp [zR],WU⟩
   · rename_i k n hrd
     simp [Wj] at he;subst he
     exact ⟨_,by simp [hop,Xk (xP ho ht hrd).1,Op.unary,Op.intBits];rfl,by simp [zR],WU⟩
   · rename_i b hrd
     simp at he;subst he
     exact ⟨_,by simp [hop,MO (xP ho ht hrd).1,Op.unary];rfl,by simp [zR],WJ⟩
   · cases he
 · -- convert
   rename_i src dst x hop
   split at hc
   · rename_i k' k x' hs hd hx
     simp at hc;subst hc
     simp only [yy] at he
     split at he
     · rename_i k0 n hrd
       simp at he;subst he
       exact ⟨_,by simp [hop,convert,run_underlying hs,run_underlying hd,Xk (xP hx ht hrd).1,Conv.intToInt];rfl,by simp [zR],WU⟩
     · cases he
   · cases hc
 · -- makeFunc
   rename_i f fs cs hop
   split at hc
   · rename_i fs' cs' hfs hcs
     simp at hc;subst hc
     simp only [yy] at he
     split at he
     · rename_i us vs hus hvs
       split at he
       · rename_i hcond
         simp at he;subst he
         simp only [zp] at hcond
         have r1:=UH ht _ _ _ hfs hus
         have r2:=UH ht _ _ _ hcs hvs
         refine ⟨_,by simp [hop,Instr.makeFunc];rfl,?_,?_,rfl⟩
         · have:=zn0 (f:=f) r1.1 r2.1 hcond.1 hcond.2
           have ea:(fs.toList.map a.eval).toArray=fs.map a.eval:=by apply Array.ext';simp
           have eb:(cs.toList.map a.eval).toArray=cs.map a.eval:=by apply Array.ext';simp
           rw [ea,eb] at this
           exact this
         · intro k hk
           simp only [V.toks,zO] at hk
           rcases hk with hk | hk
           · exact r1.2.1 k hk
           · exact r2.2.1 k hk
       · cases he
     · cases he
   · cases hc
 · -- fieldAddr
   rename_i t x f hop
   split at hc
   · rename_i fields x' hu hx
     split at hc
     · rename_i fd hfd
       split at hc
       · rename_i n hn
         split at hc
         · rename_i hn0
           simp at hc;subst hc
           simp only [yy] at he
           split at he
           · rename_i tk i q vs hrd
             split at he
             · rename_i c hf
               split at he
               · rename_i hoff
                 simp at he hoff;subst he
                 have r:=xP hx ht hrd
                 obtain ⟨c',h1,h2⟩:=zkX (P:=P) r.1 hf hoff hu hfd rfl hn hn0
                 refine ⟨c',by simp [hop,h1],h2,Yq r.2.1 ?_,rfl⟩
                 intro k hk
                 have:=Y3 vs f c hf k
                 cases tk <;> simp_all [V.toks] <;> (rcases hk with hk | hk <;> simp_all)
               · cases he
             · cases he
           · cases he
         · cases hc
       · cases hc
     · cases hc
   · cases hc
 · -- field
   rename_i t x f hop
   split at hc
   · rename_i fields x' hu hx
     split at hc
     · rename_i fd hfd
       split at hc
       · rename_i h hh
         split at hc
         · rename_i hcond
           simp at hc;subst hc
           simp only [zp,ym] at hcond
           simp only [yy] at he
           split at he
           · rename_i vs hrd
             split at he
             · rename_i c hf
               split at he
               · rename_i hc2
                 simp at he;subst he
                 simp only [zp,ym] at hc2
                 have hsh:=Sh.beq_eq _ _ hc2.2
                 have r:=xP hx ht hrd
                 obtain ⟨c',h1,h2⟩:=zgT (P:=P) r.1 hf hc2.1 hu hfd rfl (by rw [hsh];exact hcond.1) (by rw [hsh];exact hcond.2)
                 have hok:c.ok=true:=by
                  have h3:=r.1
                  simp only [zR] at h3
                  obtain ⟨arr,_,h3⟩:=h3
                  exact Wn (Y8 vs f c _ h3 hf).1
                 exact ⟨c',by simp [hop,h1],h2,Yq r.2.1 (by intro k hk;simpa [V.toks] using Y3 vs f c hf k hk),hok⟩
               · cases he
             · cases he
           · cases he
         · cases hc
       · cases hc
     · cases hc
   · cases hc
 · -- indexAddr
   rename_i t x i hop
   split at hc
   · rename_i e x' i' hu hx hi
     simp only [ye] at hc
     obtain ⟨n,hn,rfl⟩:=hc
     simp only [yy] at he
     split at he
     · rename_i tk h lo xs k m h1 h2
       split at he
       · rename_i h0
         split at he
         · rename_i c hf
           split at he
           · rename_i hcond
             simp only [zp,ym,bne_iff_ne,yT] at hcond
             simp only [zn] at he;subst he
             have r:=xP hx ht h1
             have hb:∀ r,tk≠.bx r:=by rintro r rfl;simp [Tok.isBx] at hcond
             obtain ⟨c',h3,h4⟩:=zli (P:=P) (k:=k) r.1 h0 hf ⟨hcond.1.2,hb⟩ hu (by rw [hcond.1.1];exact hn)
             refine ⟨c',by simp [hop,Xk (xP hi ht h2).1,h3],h4,Yq r.2.1 ?_,rfl⟩
             obtain ⟨a',cap,_,_,hsx,hsh,_⟩:=XX r.1
             intro k hk
             have hget:=Y3 xs m.toNat c hf k
             by_cases hts:tk = .sh
             · subst hts;simp [V.toks] at hk
             · have:k=tk∨k∈c.toks:=by cases tk <;> simp_all [V.toks]
               rcases this with rfl | hk
               · cases k with
                 | sh=>exact absurd rfl hts
                 | nl=>exact absurd rfl hcond.1.2
                 | _=>simp [V.toks]
               · exact Wt hsx hts k (hget hk)
           · cases he
         · cases he
       · cases he
     · cases he
   · rename_i n e x' i' hu hx hi
     simp only [ye] at hc
     obtain ⟨sz,hsz,rfl⟩:=hc
     simp only [yy] at he
     split at he
     · rename_i tk j q vs k m h1 h2
       split at he
       · rename_i h0
         split at he
         · rename_i c hf
           split at he
           · rename_i hcond
             simp only [zp,ym] at hcond
             simp only [zn] at he;subst he
             have r:=xP hx ht h1
             obtain ⟨c',h3,h4⟩:=ziy (P:=P) (k:=k) r.1 h0 hf hcond.1 hcond.2 hu hsz
             refine ⟨c',by simp [hop,Xk (xP hi ht h2).1,h3],h4,Yq r.2.1 ?_,rfl⟩
             intro k hk
             have:=Y3 vs m.toNat c hf k
             cases tk <;> simp_all [V.toks] <;> (rcases hk with hk | hk <;> simp_all)
           · cases he
         · cases he
       · cases he
     · cases he
   · cases hc
 · -- index
   rename_i t x i hop
   split at hc
   · rename_i n e x' i' hu hx hi
     split at hc
     · rename_i h hh
       split at hc
       · rename_i hcond
         simp at hc;subst hc
         simp only [zp,ym] at hcond
         simp only [yy] at he
         split at he
         · rename_i vs k m h1 h2
           split at he
           · rename_i h0
             split at he
             · rename_i c hf
               split at he
               · rename_i hc2
                 simp only [zp,ym] at hc2
                 simp only [zn] at he;subst he
                 have hsh:=Sh.beq_eq _ _ hc2.2
                 have r:=xP hx ht h1
                 obtain ⟨c',h3,h4⟩:=zg3 (P:=P) (k:=k) r.1 h0 hf hc2.1.1 (by rw [hsh];exact hc2.1.2) hu (by rw [hsh];exact hcond.1) (by rw [hsh];exact hcond.2)
                 have hok:c.ok=true:=by
                  have h5:=r.1
                  simp only [zR] at h5
                  obtain ⟨arr,_,h5⟩:=h5
                  exact Wn (Y8 vs _ c _ h5 hf).1
                 exact ⟨c',by simp [hop,Xk (xP hi ht h2).1,h3],h4,Yq r.2.1 (by intro k hk;simpa [V.toks] using Y3 vs _ c hf k hk),hok⟩
               · cases he
             · cases he
           · cases he
         · cases he
       · cases hc
     · cases hc
   · cases hc
 · -- extract
   rename_i x i hop
   simp only [ye] at hc
   obtain ⟨o',ho,rfl⟩:=hc
   have key:∀ (u:V) (vs:List V) (i:Nat) (cs:List Value),yB w S τ vs cs→vs[i]?=some u→∃ c,cs[i]?=some c∧zR w S τ u c:=by
    intro u vs
    induction vs with
    | nil=>intro i cs _ h;simp at h
    | cons v vs ih=>
      intro i cs hr h
      simp only [yB] at hr
      obtain ⟨c,cs',rfl,hc,hcs⟩:=hr
      cases i with
      | zero=>simp at h;subst h;exact ⟨c,rfl,hc⟩
      | succ i=>simp at h;simpa using ih i cs' hcs h
   have gen:∀ (vs:List V) (u:V),o'.rd s=some (.tup vs)→vs[i]?=some u→u.ok=true→∃ c,(∃ arr,a.eval x = .tuple arr∧arr[i]?=some c)∧zR w S τ u c∧Kg s u:=by
    intro vs u hrd hu hok
    have r:=xP ho ht hrd
    have h1:=r.1
    simp only [zR] at h1
    obtain ⟨arr,e,h1⟩:=h1
    obtain ⟨c,h2,h3⟩:=key u vs i _ h1 hu
    have h2':arr[i]?=some c:=by simpa using h2
    exact ⟨c,⟨arr,e,h2'⟩,h3,Yq r.2.1 (by intro k hk;simpa [V.toks] using Y3 vs i u hu k hk)⟩
   split at he
   all_goals
    simp only [yy] at he
    split at he
    · rename_i vs hrd
      split at he
      · first
        | (split at he
           · rename_i u hu hok
             simp at he;subst he
             obtain ⟨c,⟨arr,e,h2'⟩,h3,h4⟩:=gen _ _ hrd hu hok
             exact ⟨c,by simp [hop,e,Instr.extract,h2'],h3,h4,hok⟩
           · cases he)
        | (rename_i hu
           simp at he;subst he
           obtain ⟨c,⟨arr,e,h2'⟩,h3,h4⟩:=gen _ _ hrd hu rfl
           exact ⟨c,by simp [hop,e,Instr.extract,h2'],h3,h4,rfl⟩)
      · first
        | (cases he;done)
        | (rename_i hu
           simp at he;subst he
           obtain ⟨c,⟨arr,e,h2'⟩,h3,h4⟩:=gen _ _ hrd hu rfl
           exact ⟨c,by simp [hop,e,Instr.extract,h2'],h3,h4,rfl⟩)
      all_goals cases he
    · cases he
 · -- slice
   rename_i t x lo hi hop
   split at hc
   · rename_i e x' hu hx
     split at hc
     · rename_i n lo' hi' hn hlo hhi
       simp at hc;subst hc
       simp only [yy] at he
       split at he
       · rename_i tk h l xs h1
         split at he
         · rename_i i j h2 h3
           split at he
           · rename_i hcond
             simp only [zp,ym,ya,yT] at hcond
             simp only [zn] at he;subst he
             have r:=xP hx ht h1
             have hb:∀ r,tk≠.bx r:=by rintro r rfl;simp [Tok.isBx] at hcond
             obtain ⟨c',h4,h5⟩:=zgF (P:=P) r.1 (zgd hlo ht h2) (zgd hhi ht h3) hcond.1.1.1 hcond.1.1.2 hb hu (by rw [hcond.1.2];exact hn)
             refine ⟨c',by simp [hop,h4],h5,Yq r.2.1 ?_,rfl⟩
             obtain ⟨a',cap,_,_,hsx,hsh,_⟩:=XX r.1
             have hmem:∀ x∈(xs.drop i).take (j - i),x∈xs:=fun x hm=>List.mem_of_mem_drop (List.mem_of_mem_take hm)
             intro k hk
             have hsub:=Q5 hmem k
             by_cases hf:h.flat=true
             · cases tk <;> simp_all [V.toks]
             · cases tk <;> simp_all [V.toks] <;> (rcases hk with hk | hk <;> simp_all)
           · cases he
         · cases he
       · cases he
     · cases hc
   · rename_i n e x' hu hx
     split at hc
     · rename_i h hh
       split at hc
       · rename_i hsz
         simp at hc hsz;subst hc
         simp only [yy] at he
         split at he
         · rename_i tk j q vs h1
           split at he
           · rename_i hcond
             simp only [zp,ym,yN] at hcond
             have r:=xP hx ht h1
             have hvs:∀ v∈vs,v.shape=h:=fun v hv=>Sh.beq_eq _ _ (hcond.2 v hv)
             split at he
             · simp at he;subst he
               obtain ⟨c',h4,h5⟩:=Nt (P:=P) r.1 hcond.1 hvs hu hsz (.inl rfl)
               exact ⟨c',by simp [hop,h4],h5,by intro k hk;simp [V.toks] at hk,rfl⟩
             · rename_i r'
               simp at he;subst he
               obtain ⟨c',h4,h5⟩:=Nt (P:=P) r.1 hcond.1 hvs hu hsz (.inr ⟨r',rfl⟩)
               refine ⟨c',by simp [hop,h4],h5,Yq r.2.1 ?_,rfl⟩
               intro k hk
               by_cases hf:h.flat=true <;> simp_all [V.toks]
             · cases he
           · cases he
         · cases he
       · cases hc
     · cases hc
   · cases hc
 · -- len
   rename_i args argTypes hop
   split at hc
   · rename_i x t hargs htys
     split at hc
     · rename_i e x' hu hx
       simp at hc;subst hc
       simp only [yy] at he
       split at he
       · rename_i tk h lo xs hpk
         simp at he;subst he
         have hrel:zR w S τ (.sl tk h lo xs) (a.eval x):=by
          have h1:=M3 hx ht
          unfold O.pk at hpk
          split at hpk
          · rename_i v hv
            rw [hv] at h1
            simp only [zR] at h1
            rw [← hpk];exact h1
          · rw [← hpk];exact h1
         have hl:=zkV (P:=P) hrel hu o.type
         have ea:args=#[x]:=by apply Array.ext';simpa using hargs
         have et:argTypes=#[t]:=by apply Array.ext';simpa using htys
         subst ea;subst et
         refine ⟨.int .i64 xs.length,?_,by simp [zR],WU⟩
         simp only [hop,resolve,xp,Sem.run_pure,xi,invoke,builtin]
         simp only [List.map_toArray,List.map_cons,List.map_nil,hl,xi]
       · cases he
     · cases hc
   · cases hc
 · -- max
   rename_i args argTypes hop
   simp only [ye] at hc
   obtain ⟨os,hos,rfl⟩:=hc
   simp only [yy] at he
   split at he
   · rename_i vs hvs
     have r:=UH ht _ _ _ hos hvs
     obtain ⟨c,h1,h2⟩:=zkv (P:=P) vs _ v he r.1
     obtain ⟨k,n,rfl⟩:=zdf (.inl he)
     refine ⟨c,?_,h2,WU⟩
     have ea:(args.toList.map a.eval).toArray=args.map a.eval:=by apply Array.ext';simp
     rw [ea] at h1
     have h1':(Builtin.max_ argTypes o.type (args.map a.eval)).run P w = .ok c w:=h1
     simp only [hop,resolve,xp,Sem.run_pure,xi,invoke,builtin,h1']
   · cases he
 · -- min
   rename_i args argTypes hop
   simp only [ye] at hc
   obtain ⟨os,hos,rfl⟩:=hc
   simp only [yy] at he
   split at he
   · rename_i vs hvs
     have r:=UH ht _ _ _ hos hvs
     obtain ⟨c,h1,h2⟩:=zlE (P:=P) vs _ v he r.1
     obtain ⟨k,n,rfl⟩:=zdf (.inr he)
     refine ⟨c,?_,h2,WU⟩
     have ea:(args.toList.map a.eval).toArray=args.map a.eval:=by apply Array.ext';simp
     rw [ea] at h1
     have h1':(Builtin.min_ argTypes o.type (args.map a.eval)).run P w = .ok c w:=h1
     simp only [hop,resolve,xp,Sem.run_pure,xi,invoke,builtin,h1']
   · cases he
 · -- build
   rename_i t ps hop
   split at hc
   · rename_i place vs info hpl hz hi
     split at hc
     · rename_i z ps' hzero hps
       split at hc
       · rename_i hcond
         simp at hc;subst hc
         simp only [zp] at hcond
         simp only [yy,ye] at he
         obtain ⟨r,hr,rfl⟩:=he
         have hcr:=LV (w:=w) (S:=S) (τ:=τ) vs _ hcond.1
         have hplace:(∃ fields sizes,P.underlying t=some (.struct fields)∧(fields.mapM fun f=>do pure (f.offset,← sizeOf f.type):Sem (Array (Nat×Nat))).run P w = .ok sizes w∧place=(sizes[·]?)) ∨
             (∃ n e sz,P.underlying t=some (.array n e)∧vD P e=some sz∧place=fun i=>some (i * sz,sz)):=by
          unfold zjF at hpl
          split at hpl
          · rename_i fs hu
            simp only [ye] at hpl
            obtain ⟨arr,h1,rfl⟩:=hpl
            exact .inl ⟨fs,arr,hu,My h1 w,rfl⟩
          · rename_i n e hu
            simp only [ye] at hpl
            obtain ⟨sz,h1,rfl⟩:=hpl
            exact .inr ⟨n,e,sz,hu,h1,rfl⟩
          · cases hpl
         obtain ⟨c,h1,h2,h3⟩:=zgI (P:=P) hi hzero hcr.1 hplace hps hr (fun i u hu=>by simpa using Lp vs 0 i u hcond.2 hu) ht
         refine ⟨c,by simp [hop,h1],h2,?_,rfl⟩
         intro k hk
         rcases h3 k (by simpa [V.toks] using hk) with h | h
         · rw [hcr.2] at h;cases h
         · exact h
       · cases hc
     · cases hc
   · cases hc
 · cases hc
end
def upd (s:Nat→V) (d:Nat) (v:V):Nat→V:=fun t=>if t=d then v else s t
def put (s:Nat→V) (d:Option Nat) (v:V):Nat→V:=match d with
 | some d=>upd s d v
 | none=>s
@[simp] theorem upd_same (s:Nat→V) (d:Nat) (v:V):upd s d v d=v:=by simp [upd]
theorem zX (s:Nat→V) {d t:Nat} (v:V) (h:t≠d):upd s d v t=s t:=by simp [upd,h]
structure Bel (N:Nat→Prop) (w w':World):Prop where
 os:w'.os=w.os
 tape:w'.tape=w.tape
 output:w'.output=w.output
 size:w.heap.size≤w'.heap.size
 block:∀ k,k < w.heap.size→¬ N k→w'.heap[k]?=w.heap[k]?
 rows:∀ (b:Nat) (arr:Array Value) (ty:TypeId) (fz:Nat×Nat),w.heap[b]?=some (.cells arr ty fz)→∃ arr',w'.heap[b]?=some (.cells arr' ty fz)∧arr'.size=arr.size
theorem Bel.refl (N:Nat→Prop) (w:World):Bel N w w:=⟨rfl,rfl,rfl,xF _,fun _ _ _=>rfl,fun _ arr _ _ h=>⟨arr,h,rfl⟩⟩
theorem Bel.trans {N:Nat→Prop} {a b c:World} (h:Bel N a b) (k:Bel N b c):Bel N a c:=
 ⟨k.os.trans h.os,k.tape.trans h.tape,k.output.trans h.output,Zf h.size k.size,fun i hi hn=>(k.block i (Yj hi h.size) hn).trans (h.block i hi hn),fun b arr ty fz e=>by
  obtain ⟨arr1,e1,s1⟩:=h.rows b arr ty fz e
  obtain ⟨arr2,e2,s2⟩:=k.rows b arr1 ty fz e1
  exact ⟨arr2,e2,s2.trans s1⟩⟩
theorem Bel.of_below {N:Nat→Prop} {w w':World} (h:Go.RowKit.Below w.heap.size w w'):Bel N w w':=
 ⟨h.os,h.tape,h.output,h.size,fun k hk _=>h.block k hk,fun b arr ty fz e=>⟨arr,by
  have hb:b < w.heap.size:=by
   rcases Nat.lt_or_ge b w.heap.size with hb | hb
   · exact hb
   · rw [Array.getElem?_eq_none hb] at e;cases e
  rw [h.block b hb];exact e,rfl⟩⟩
theorem Bel.below {w w':World} (h:Bel (fun b=>w.heap.size≤b) w w'):Go.RowKit.Below w.heap.size w w':=
 ⟨h.os,h.tape,h.output,h.size,fun k hk=>h.block k hk (by omega)⟩
def zP:Nat:=1000000
def Tok.pinned:Tok→Bool
 | .at r _=>Nat.ble zP r
 | .bx r=>Nat.ble zP r
 | _=>false
theorem JJ {k:Tok} (h:k.pinned=true):∃ r,k.root?=some r∧zP≤r:=by
 cases k <;> simp only [Tok.pinned] at h <;> first | (cases h;done) | exact ⟨_,rfl,Nat.le_of_ble_eq_true h⟩
theorem Qz {k:Tok} {r:Nat} (h:k.root?=some r) (hr:zP≤r):k.pinned=true:=by
 cases k <;> simp [Tok.root?] at h <;> subst h <;> exact Nat.ble_eq_true_of_le hr
structure Ori where
 w:World
 N:Nat→Prop
 τ:Tok→Blk
 up:∀ b,w.heap.size≤b→N b
structure Inv (w0:Ori) (S0:Nat→Prop) (n:Nat) (s:Nat→V) (a:Act) (w:World) (S:Nat→Prop) (τ:Tok→Blk):Prop where
 told:Mz w S τ s a
 size:a.tmps.size=n
 defers:a.defers=[]
 own:∀ t k,k∈(s t).toks→w0.N (τ k).b∧(τ k).b < w.heap.size∧¬ S (τ k).b
 inj:∀ t t' k k',k∈(s t).toks→k'∈(s t').toks→(τ k).b=(τ k').b→k=k'
 sbd:∀ b,S b→b < w.heap.size
 sfr:∀ b,S b→S0 b∨w0.N b
 s0:∀ b,S0 b→S b
 below:Bel w0.N w0.w w
 lin:∀ r v t k,s r = .lin v→t≠r→k∈(s t).toks→k.root?≠some r
 gone:∀ r t k,s r = .gone→k∈(s t).toks→k.root?≠some r
 small:n≤zP
 pin:∀ t k,k∈(s t).toks→k.pinned=true→τ k=w0.τ k
theorem Ur {a:Act} {d:Nat} {c:Value} (h:d < a.tmps.size):(a.put (some d) c).eval (.tmp d)=c:=by
 simp [Act.eval,Act.put,h]
theorem Kf {a:Act} {d t:Nat} {c:Value} (h:t≠d):(a.put (some d) c).eval (.tmp t)=a.eval (.tmp t):=by
 simp [Act.eval,Act.put,Array.getElem?_setIfInBounds_ne (Ne.symm h)]
theorem Nj (a:Act) (d:Option Nat) (c:Value):(a.put d c).tmps.size=a.tmps.size:=by
 cases d <;> simp [Act.put]
theorem KN (a:Act) (d:Option Nat) (c:Value):(a.put d c).defers=a.defers:=by
 cases d <;> simp [Act.put]
section
variable {w0:Ori} {S0:Nat→Prop} {n:Nat} {s:Nat→V} {a:Act} {w:World} {S:Nat→Prop} {τ:Tok→Blk}
theorem Inv.same_heap (h:Inv w0 S0 n s a w S τ) {w':World} (hh:w'.heap=w.heap) (hb:Bel w0.N w0.w w'):Inv w0 S0 n s a w' S τ where
 told t:=wP (w:=w) (fun b hb=>⟨hb,by rw [hh]⟩) _ _ (h.told t) (fun k _=>⟨rfl,by rw [hh]⟩)
 size:=h.size
 defers:=h.defers
 own t k hk:=by rw [hh];exact h.own t k hk
 inj:=h.inj
 sbd b hb:=by rw [hh];exact h.sbd b hb
 sfr:=h.sfr
 s0:=h.s0
 below:=hb
 lin:=h.lin
 gone:=h.gone
 small:=h.small
 pin:=h.pin
theorem Inv.val (h:Inv w0 S0 n s a w S τ) {v:V} {c:Value} (hr:zR w S τ v c) (hf:Kg s v) (hok:v.ok=true) {d:Nat} (hd:d < n):Inv w0 S0 n (upd s d v) (a.put (some d) c) w S τ where
 told t:=by
  by_cases e:t=d
  · subst e
    rw [upd_same,Ur (by rw [h.size];exact hd)]
    exact hr
  · rw [zX _ _ e,Kf e];exact h.told t
 size:=by rw [Nj];exact h.size
 defers:=by rw [KN];exact h.defers
 own t k hk:=by
  by_cases e:t=d
  · subst e
    rw [upd_same] at hk
    obtain ⟨t0,h0,_⟩:=hf k hk
    exact h.own t0 k h0
  · rw [zX _ _ e] at hk;exact h.own t k hk
 inj t t' k k' hk hk':=by
  have key:∀ t k,k∈(upd s d v t).toks→∃ t0,k∈(s t0).toks:=by
   intro t k hk
   by_cases e:t=d
   · subst e
     rw [upd_same] at hk
     obtain ⟨t0,h0,_⟩:=hf k hk
     exact ⟨t0,h0⟩
   · rw [zX _ _ e] at hk;exact ⟨t,hk⟩
  obtain ⟨t1,h1⟩:=key t k hk
  obtain ⟨t2,h2⟩:=key t' k' hk'
  exact h.inj t1 t2 k k' h1 h2
 sbd:=h.sbd
 sfr:=h.sfr
 s0:=h.s0
 below:=h.below
 lin r v' t k hl ht hk:=by
  by_cases er:r=d
  · subst er
    rw [upd_same] at hl
    subst hl;simp [V.ok] at hok
  · rw [zX _ _ er] at hl
    by_cases e:t=d
    · subst e
      rw [upd_same] at hk
      obtain ⟨t0,h0,hok0⟩:=hf k hk
      have:t0≠r:=by rintro rfl;rw [hl] at hok0;simp [V.ok] at hok0
      exact h.lin r v' t0 k hl this h0
    · rw [zX _ _ e] at hk
      exact h.lin r v' t k hl ht hk
 gone r t k hg hk:=by
  by_cases er:r=d
  · subst er
    rw [upd_same] at hg
    subst hg;simp [V.ok] at hok
  · rw [zX _ _ er] at hg
    by_cases e:t=d
    · subst e
      rw [upd_same] at hk
      obtain ⟨t0,h0,hok0⟩:=hf k hk
      exact h.gone r t0 k hg h0
    · rw [zX _ _ e] at hk
      exact h.gone r t k hg hk
 small:=h.small
 pin t k hk hp:=by
  by_cases e:t=d
  · subst e
    rw [upd_same] at hk
    obtain ⟨t0,h0,_⟩:=hf k hk
    exact h.pin t0 k h0 hp
  · rw [zX _ _ e] at hk;exact h.pin t k hk hp
theorem Inv.drop (h:Inv w0 S0 n s a w S τ) (r:Nat):Inv w0 S0 n (upd s r .dead) a w S τ where
 told t:=by
  by_cases e:t=r
  · subst e;rw [upd_same];simp [zR]
  · rw [zX _ _ e];exact h.told t
 size:=h.size
 defers:=h.defers
 own t k hk:=by
  by_cases e:t=r
  · subst e;rw [upd_same] at hk;simp [V.toks] at hk
  · rw [zX _ _ e] at hk;exact h.own t k hk
 inj t t' k k' hk hk':=by
  by_cases e:t=r
  · subst e;rw [upd_same] at hk;simp [V.toks] at hk
  · by_cases e':t'=r
    · subst e';rw [upd_same] at hk';simp [V.toks] at hk'
    · rw [zX _ _ e] at hk;rw [zX _ _ e'] at hk'
      exact h.inj t t' k k' hk hk'
 sbd:=h.sbd
 sfr:=h.sfr
 s0:=h.s0
 below:=h.below
 lin q v t k hl ht hk:=by
  by_cases eq:q=r
  · subst eq;rw [upd_same] at hl;cases hl
  · rw [zX _ _ eq] at hl
    by_cases e:t=r
    · subst e;rw [upd_same] at hk;simp [V.toks] at hk
    · rw [zX _ _ e] at hk;exact h.lin q v t k hl ht hk
 gone q t k hg hk:=by
  by_cases eq:q=r
  · subst eq;rw [upd_same] at hg;cases hg
  · rw [zX _ _ eq] at hg
    by_cases e:t=r
    · subst e;rw [upd_same] at hk;simp [V.toks] at hk
    · rw [zX _ _ e] at hk;exact h.gone q t k hg hk
 small:=h.small
 pin t k hk hp:=by
  by_cases e:t=r
  · subst e;rw [upd_same] at hk;simp [V.toks] at hk
  · rw [zX _ _ e] at hk;exact h.pin t k hk hp
def WZ (f:Tok→Option Tok) (s:Nat→V):Nat→V:=fun t=>V.map f (s t)
theorem zb4 {f:Tok→Option Tok} {v u:V} (h:V.map f v = .lin u):∃ u',v = .lin u':=by
 cases v with
 | lin u'=>exact ⟨u',rfl⟩
 | sl t g lo xs=>cases t <;> simp only [V.map] at h <;> (try split at h) <;> cases h
 | ref t i q c=>cases t <;> simp only [V.map] at h <;> (try split at h) <;> cases h
 | _=>simp [V.map] at h
theorem N0 {f:Tok→Option Tok} {v:V} (h:V.map f v = .gone):v = .gone:=by
 cases v with
 | gone=>rfl
 | sl t g lo xs=>cases t <;> simp only [V.map] at h <;> (try split at h) <;> cases h
 | ref t i q c=>cases t <;> simp only [V.map] at h <;> (try split at h) <;> cases h
 | _=>simp [V.map] at h
theorem Inv.map (h:Inv w0 S0 n s a w S τ) {f:Tok→Option Tok} {τ':Tok→Blk} (hf:MC f τ τ')
    (hlin:∀ r v t k k',s r = .lin v→t≠r→k∈(s t).toks→f k=some k'→k'.root?≠some r)
    (hgone:∀ r t k k',s r = .gone→k∈(s t).toks→f k=some k'→k'.root?≠some r) (hpin:∀ k k',f k=some k'→k'.pinned=true→k=k'):Inv w0 S0 n (WZ f s) a w S τ':=by
 have key:∀ t k,k∈(WZ f s t).toks→∃ k0∈(s t).toks,f k0=some k∧τ' k=τ k0:=by
  intro t k hk
  obtain ⟨k0,h0,e⟩:=Uc f hf.2.2 (s t) k hk
  refine ⟨k0,h0,e,?_⟩
  have ho:=ZB _ k0 h0
  cases k0 with
  | «at» r p=>exact (hf.1 r p k e).1
  | bx r=>exact (hf.2.1 r k e).1
  | nl=>exact absurd rfl ho.2
  | sh=>exact absurd rfl ho.1
 refine ⟨fun t=>La hf _ _ (h.told t),h.size,h.defers,?_,?_,h.sbd,h.sfr,h.s0,h.below,?_,?_,h.small,?_⟩
 · intro t k hk
   obtain ⟨k0,h0,_,e⟩:=key t k hk
   rw [e];exact h.own t k0 h0
 · intro t t' k k' hk hk' e
   obtain ⟨k0,h0,e1,e2⟩:=key t k hk
   obtain ⟨k0',h0',e1',e2'⟩:=key t' k' hk'
   rw [e2,e2'] at e
   have:=h.inj t t' k0 k0' h0 h0' e
   subst this
   rw [e1] at e1';simpa using e1'
 · intro r v t k hl ht hk
   obtain ⟨u,hu⟩:=zb4 hl
   obtain ⟨k0,h0,e1,_⟩:=key t k hk
   exact hlin r u t k0 k hu ht h0 e1
 · intro r t k hg hk
   have hu:=N0 hg
   obtain ⟨k0,h0,e1,_⟩:=key t k hk
   exact hgone r t k0 k hu h0 e1
 · intro t k hk hp
   obtain ⟨k0,h0,e1,e2⟩:=key t k hk
   have:=hpin k0 k e1 hp
   subst this
   rw [e2];exact h.pin t k0 h0 hp
def clear (pk:List Nat) (s:Nat→V):Nat→V:=fun t=>if pk.contains t then .gone else V.map (fun k=>if pk.any (fun r=>k.root? == some r) then none else some k) (s t)
theorem zgx (p:Tok→Bool) (hp:p .nl=false):MC (fun k=>if p k then none else some k) τ τ:=by
 refine ⟨?_,?_,by simp [hp]⟩
 · intro r q k e
   dsimp only at e
   split at e
   · cases e
   · simp at e;subst e;exact ⟨rfl,r,q,rfl⟩
 · intro r k e
   dsimp only at e
   split at e
   · cases e
   · simp at e;subst e;exact ⟨rfl,r,rfl⟩
theorem Inv.kill (h:Inv w0 S0 n s a w S τ) (p:Tok→Bool) (hp:p .nl=false):Inv w0 S0 n (WZ (fun k=>if p k then none else some k) s) a w S τ:=
 h.map (zgx p hp)
  (by intro r v t k k' hl ht hk e;split at e <;> simp at e;subst e;exact h.lin r v t k hl ht hk)
  (by intro r t k k' hg hk e;split at e <;> simp at e;subst e;exact h.gone r t k hg hk)
  (by intro k k' e _;split at e <;> simp at e;exact e)
theorem Km {p:Tok→Bool} (hp:p .nl=false) {v:V} {k:Tok} (hk:k∈(V.map (fun k=>if p k then none else some k) v).toks):k∈v.toks∧p k=false:=by
 obtain ⟨k0,h0,e⟩:=Uc (fun k=>if p k then none else some k) (by simp [hp]) v k hk
 skip
 split at e
 · cases e
 · rename_i hpk
   simp at e;subst e
   exact ⟨h0,by simpa using hpk⟩
theorem Inv.clear (h:Inv w0 S0 n s a w S τ) (pk:List Nat):Inv w0 S0 n (clear pk s) a w S τ:=by
 have hp:(fun k:Tok=>pk.any (fun r=>k.root? == some r)) .nl=false:=by simp [Tok.root?]
 have h1:=h.kill (fun k=>pk.any (fun r=>k.root? == some r)) hp
 have hnone:∀ t k,k∈(Zq.clear pk s t).toks→k∈(WZ (fun k=>if pk.any (fun r=>k.root? == some r) then none else some k) s t).toks∧pk.contains t=false:=by
  intro t k hk
  unfold Zq.clear at hk
  split at hk
  · simp [V.toks] at hk
  · rename_i hc;exact ⟨hk,by simpa using hc⟩
 refine ⟨?_,h1.size,h1.defers,?_,?_,h1.sbd,h1.sfr,h1.s0,h1.below,?_,?_,h1.small,fun t k hk=>h1.pin t k (hnone t k hk).1⟩
 · intro t
   unfold Zq.clear
   split
   · simp [zR]
   · exact h1.told t
 · intro t k hk;exact h1.own t k (hnone t k hk).1
 · intro t t' k k' hk hk';exact h1.inj t t' k k' (hnone t k hk).1 (hnone t' k' hk').1
 · intro r v t k hl ht hk
   have hl':WZ (fun k=>if pk.any (fun r=>k.root? == some r) then none else some k) s r = .lin v:=by
    unfold Zq.clear at hl
    split at hl
    · cases hl
    · exact hl
   exact h1.lin r v t k hl' ht (hnone t k hk).1
 · intro r t k hg hk
   have hk1:=hnone t k hk
   unfold Zq.clear at hg
   split at hg
   · rename_i hr
     have hk2:=Km hp hk1.1
     intro e
     have:pk.any (fun r=>k.root? == some r)=true:=by
      rw [ZT]
      exact ⟨r,by simpa using hr,by simp [e]⟩
     have h3:pk.any (fun r=>k.root? == some r)=false:=hk2.2
     rw [this] at h3;cases h3
   · exact h1.gone r t k hg hk1.1
theorem Inv.make2 {s9:Nat→V} (h9:Inv w0 S0 n s9 a w S τ) (h:Inv w0 S0 n s a w S τ) (hgs:∀ r,s r = .gone→s9 r = .gone) (hls:∀ r u,s r = .lin u→∃ u',s9 r = .lin u') (hsub:∀ t k,k∈(s t).toks→∃ t0,k∈(s9 t0).toks)
    {w':World} {d:Nat} {v:V} {c:Value} {k0:Tok} {blk:Blk} (hd:d < n) (hg:s d = .gone) (hk0:k0.root?=some d)
    (hfree:∀ t k,k∈(s t).toks→(τ k).b≠blk.b) (hS:¬ S blk.b) (hlo:w0.N blk.b) (hhi:blk.b < w'.heap.size)
    (hkeep:∀ b,b≠blk.b→b < w.heap.size→w'.heap[b]?=w.heap[b]?) (hsz:w.heap.size≤w'.heap.size) (hb:Bel w0.N w0.w w')
    (hr:zR w' S (fun k=>if k=k0 then blk else τ k) v c) (hf:∀ k∈v.toks,k=k0∨((∃ t,k∈(s9 t).toks∧(s9 t).ok=true)∧(τ k).b≠blk.b)) (l:Bool) (hok:v.ok=true) :
    Inv w0 S0 n (upd s d (if l then .lin v else v)) (a.put (some d) c) w' S (fun k=>if k=k0 then blk else τ k):=by
 have hne9:∀ t k,k∈(s9 t).toks→k≠k0:=by
  rintro t k hk rfl
  exact h9.gone d t k (hgs d hg) hk hk0
 have hne:∀ t k,k∈(s t).toks→k≠k0:=by
  intro t k hk
  obtain ⟨t0,h0⟩:=hsub t k hk
  exact hne9 t0 k h0
 have htoks:(if l then V.lin v else v).toks=v.toks:=by cases l <;> simp [V.toks]
 have key:∀ t k,k∈(upd s d (if l then .lin v else v) t).toks→k=k0∧t=d∨(∃ t0,k∈(s9 t0).toks)∧(τ k).b≠blk.b:=by
  intro t k hk
  by_cases e:t=d
  · subst e
    rw [upd_same,htoks] at hk
    rcases hf k hk with h1 | ⟨⟨t0,h1,_⟩,h2⟩
    · exact .inl ⟨h1,rfl⟩
    · exact .inr ⟨⟨t0,h1⟩,h2⟩
  · rw [zX _ _ e] at hk;exact .inr ⟨hsub t k hk,hfree t k hk⟩
 refine ⟨?_,by rw [Nj];exact h.size,by rw [KN];exact h.defers,?_,?_,?_,h.sfr,h.s0,hb,?_,?_,h.small,?_⟩
 · intro t
   by_cases e:t=d
   · subst e
     rw [upd_same,Ur (by rw [h.size];exact hd)]
     cases l
     · exact hr
     · simpa [zR] using hr
   · rw [zX _ _ e,Kf e]
     refine wP (w:=w) (τ:=τ) (fun b hb=>⟨hb,hkeep b (fun e=>hS (e ▸ hb)) (h.sbd b hb)⟩) _ _ (h.told t) ?_
     intro k hk
     exact ⟨by rw [zy (hne t k hk)],hkeep _ (hfree t k hk) (h.own t k hk).2.1⟩
 · intro t k hk
   rcases key t k hk with ⟨rfl,_⟩ | ⟨⟨t0,h0⟩,_⟩
   · simp only [z5];exact ⟨hlo,hhi,hS⟩
   · rw [zy (hne9 t0 k h0)]
     have:=h9.own t0 k h0
     exact ⟨this.1,by omega,this.2.2⟩
 · intro t t' k k' hk hk' e
   rcases key t k hk with ⟨rfl,_⟩ | ⟨⟨t0,h0⟩,h1⟩ <;> rcases key t' k' hk' with ⟨rfl,_⟩ | ⟨⟨t0',h0'⟩,h1'⟩
   · rfl
   · rw [if_pos rfl,zy (hne9 t0' k' h0')] at e
     exact absurd e.symm h1'
   · rw [if_pos rfl,zy (hne9 t0 k h0)] at e
     exact absurd e h1
   · rw [zy (hne9 t0 k h0),zy (hne9 t0' k' h0')] at e
     exact h9.inj t0 t0' k k' h0 h0' e
 · intro b hb';have:=h.sbd b hb';omega
 · intro r u t k hl ht hk
   by_cases er:r=d
   · subst er
     rcases key t k hk with ⟨rfl,rfl⟩ | ⟨⟨t0,h0⟩,_⟩
     · exact absurd rfl ht
     · exact h9.gone _ t0 k (hgs _ hg) h0
   · rw [zX _ _ er] at hl
     by_cases e:t=d
     · subst e
       rw [upd_same,htoks] at hk
       rcases hf k hk with rfl | ⟨⟨t0,h0,hok0⟩,_⟩
       · intro e2;rw [hk0] at e2;simp at e2;exact er e2.symm
       · obtain ⟨u',hl'⟩:=hls r u hl
         have:t0≠r:=by rintro rfl;rw [hl'] at hok0;simp [V.ok] at hok0
         exact h9.lin r u' t0 k hl' this h0
     · rw [zX _ _ e] at hk;exact h.lin r u t k hl ht hk
 · intro r t k hg' hk
   by_cases er:r=d
   · subst er
     rw [upd_same] at hg'
     cases l
     · simp at hg';subst hg';simp [V.ok] at hok
     · cases hg'
   · rw [zX _ _ er] at hg'
     rcases key t k hk with ⟨rfl,rfl⟩ | ⟨⟨t0,h0⟩,_⟩
     · intro e2;rw [hk0] at e2;simp at e2;exact er e2.symm
     · exact h9.gone r t0 k (hgs r hg') h0
 · intro t k hk hp
   rcases key t k hk with ⟨rfl,_⟩ | ⟨⟨t0,h0⟩,_⟩
   · obtain ⟨r,e1,e2⟩:=JJ hp
     rw [hk0] at e1
     simp only [zn] at e1
     have:=h.small
     omega
   · rw [zy (hne9 t0 k h0)];exact h9.pin t0 k h0 hp
theorem Inv.make (h:Inv w0 S0 n s a w S τ) {w':World} {d:Nat} {v:V} {c:Value} {k0:Tok} {blk:Blk} (hd:d < n) (hg:s d = .gone) (hk0:k0.root?=some d)
    (hfree:∀ t k,k∈(s t).toks→(τ k).b≠blk.b) (hS:¬ S blk.b) (hlo:w0.N blk.b) (hhi:blk.b < w'.heap.size)
    (hkeep:∀ b,b≠blk.b→b < w.heap.size→w'.heap[b]?=w.heap[b]?) (hsz:w.heap.size≤w'.heap.size) (hb:Bel w0.N w0.w w')
    (hr:zR w' S (fun k=>if k=k0 then blk else τ k) v c) (hf:∀ k∈v.toks,k=k0∨∃ t,k∈(s t).toks∧(s t).ok=true) (l:Bool) (hok:v.ok=true) :
    Inv w0 S0 n (upd s d (if l then .lin v else v)) (a.put (some d) c) w' S (fun k=>if k=k0 then blk else τ k):=
 h.make2 h (fun _ h=>h) (fun _ u h=>⟨u,h⟩) (fun t _ h=>⟨t,h⟩) hd hg hk0 hfree hS hlo hhi hkeep hsz hb hr (fun k hk=>(hf k hk).imp id fun ⟨t,h1,h2⟩=>⟨⟨t,h1,h2⟩,hfree t k h1⟩) l hok
end
section
variable {P:Program} {w0:Ori} {S0:Nat→Prop} {n:Nat} {s:Nat→V} {a:Act} {w:World} {S:Nat→Prop} {τ:Tok→Blk}
def Wm (w:World) (arr:Array Value) (ty:TypeId):World:={ w with heap:=w.heap.push (.cells arr ty) }
theorem zfj (w:World) (arr:Array Value) (ty:TypeId):(Wm w arr ty).heap[w.heap.size]?=some (.cells arr ty (0,0)):=by
 show (w.heap.push _)[w.heap.size]?=_
 rw [Array.getElem?_push,if_pos rfl]
theorem Kb (w:World) (arr:Array Value) (ty:TypeId) (b:Nat) (h:b < w.heap.size):(Wm w arr ty).heap[b]?=w.heap[b]?:=by
 simp only [Wm,Array.getElem?_push];rw [zy (by omega)]
theorem UC (w:World) (arr:Array Value) (ty:TypeId):(Wm w arr ty).heap.size=w.heap.size + 1:=by simp [Wm]
theorem zdk {N:Nat→Prop} {w w1:World} (h:Bel N w1 w) (arr:Array Value) (ty:TypeId):Bel N w1 (Wm w arr ty):=
 h.trans (.of_below ⟨rfl,rfl,rfl,by rw [UC];omega,fun k hk=>Kb w arr ty k (by omega)⟩)
theorem Inv.keepC (h:Inv w0 S0 n s a w S τ) {k0:Tok} {blk:Blk} {d:Nat} (hg:s d = .gone) (hk0:k0.root?=some d) {w':World} (hold:∀ b,b < w.heap.size→w'.heap[b]?=w.heap[b]?)
    {v:V} {cs:List Value} (hr:zT w S τ v cs) (hf:Kg s v):zT w' S (fun k=>if k=k0 then blk else τ k) v cs:=by
 refine wy (fun b hb=>⟨hb,hold b (h.sbd b hb)⟩) v cs hr fun k hk=>?_
 obtain ⟨t,ht,_⟩:=hf k hk
 have:k≠k0:=by rintro rfl;exact h.gone d t k hg ht hk0
 exact ⟨by rw [zy this],hold _ (h.own t k ht).2.1⟩
theorem Inv.keepCs (h:Inv w0 S0 n s a w S τ) {k0:Tok} {blk:Blk} {d:Nat} (hg:s d = .gone) (hk0:k0.root?=some d) {w':World} (hold:∀ b,b < w.heap.size→w'.heap[b]?=w.heap[b]?)
    {vs:List V} {cs:List Value} (hr:yC w S τ vs cs) (hf:∀ k∈V.tokss vs,∃ t,k∈(s t).toks∧(s t).ok=true):yC w' S (fun k=>if k=k0 then blk else τ k) vs cs:=by
 refine vf (fun b hb=>⟨hb,hold b (h.sbd b hb)⟩) vs cs hr fun k hk=>?_
 obtain ⟨t,ht,_⟩:=hf k hk
 have:k≠k0:=by rintro rfl;exact h.gone d t k hg ht hk0
 exact ⟨by rw [zy this],hold _ (h.own t k ht).2.1⟩
theorem Inv.newBox (h:Inv w0 S0 n s a w S τ) {d:Nat} (hd:d < n) (hg:s d = .gone) {v:V} {arr:Array Value} (ty:TypeId) (hr:zT w S τ v arr.toList) (hf:Kg s v) :
    Inv w0 S0 n (upd s d (.ref (.bx d) 0 [] v)) (a.put (some d) (.pointer (some ⟨w.heap.size,0,none⟩))) (Wm w arr ty) S (fun k=>if k = .bx d then ⟨w.heap.size,0,v.shape⟩ else τ k):=by
 have hlen:=vE _ _ _ _ _ hr
 have:=h.make (w':=Wm w arr ty) (d:=d) (v:=.ref (.bx d) 0 [] v) (c:=.pointer (some ⟨w.heap.size,0,none⟩)) (k0:=.bx d) (blk:=⟨w.heap.size,0,v.shape⟩) hd hg rfl
  (fun t k hk=>by have:=(h.own t k hk).2.1;simp only;omega) (fun hS=>by have:=h.sbd _ hS;simp only at this;omega) (w0.up _ h.below.size) (by rw [UC];simp) (fun b _ hb=>Kb w arr ty b hb) (by rw [UC];omega)
  (zdk h.below arr ty)
  (by
    simp only [zR,zT]
    refine ⟨w.heap.size,0,arr,ty,(0,0),rfl,zfj w arr ty,⟨by simp,rfl,0,by simp [Jl],by simp⟩,by simp at hlen;omega,by simp,?_⟩
    rw [List.drop_zero,List.take_of_length_le (by simp at hlen ⊢;omega)]
    exact h.keepC hg rfl (fun b hb=>Kb w arr ty b hb) hr hf)
  (by
    intro k hk
    simp only [V.toks,yf] at hk
    rcases hk with rfl | hk
    · exact .inl rfl
    · exact .inr (hf k hk)) false rfl
 simpa using this
theorem Inv.newList2 {s9:Nat→V} (h9:Inv w0 S0 n s9 a w S τ) (h:Inv w0 S0 n s a w S τ) (hgs:∀ r,s r = .gone→s9 r = .gone) (hls:∀ r u,s r = .lin u→∃ u',s9 r = .lin u') (hsub:∀ t k,k∈(s t).toks→∃ t0,k∈(s9 t0).toks)
    {d:Nat} (hd:d < n) (hg:s d = .gone) {g:Sh} {xs:List V} {arr:Array Value} (ty:TypeId) {cap:Nat} (hx:∀ x∈xs,x.shape=g) (hcap:xs.length≤cap)
    (hfit:cap * g.size≤arr.size) (hr:yC w S τ xs (arr.toList.take (xs.length * g.size))) (hf:∀ k∈V.tokss xs,∃ t,k∈(s9 t).toks∧(s9 t).ok=true) (l:Bool) :
    Inv w0 S0 n (upd s d (if l then .lin (.sl (.at d []) g 0 xs) else .sl (.at d []) g 0 xs)) (a.put (some d) (.slice (some ⟨w.heap.size,0,none⟩) xs.length cap)) (Wm w arr ty) S
     (fun k=>if k = .at d [] then ⟨w.heap.size,0,g⟩ else τ k):=
 h9.make2 h hgs hls hsub (w':=Wm w arr ty) (d:=d) (v:=.sl (.at d []) g 0 xs) (c:=.slice (some ⟨w.heap.size,0,none⟩) xs.length cap) (k0:=.at d []) (blk:=⟨w.heap.size,0,g⟩) hd hg rfl
  (fun t k hk=>by have:=(h.own t k hk).2.1;simp only;omega) (fun hS=>by have:=h.sbd _ hS;simp only at this;omega) (w0.up _ h.below.size) (by rw [UC];simp) (fun b _ hb=>Kb w arr ty b hb) (by rw [UC];omega)
  (zdk h.below arr ty)
  (by
    simp only [zR,zT]
    refine ⟨_,cap,rfl,hcap,hx,by simp,.inr ⟨w.heap.size,0,arr,ty,(0,0),rfl,zfj w arr ty,⟨by simp,by simp,by simp,rfl⟩,by omega,?_⟩⟩
    rw [List.drop_zero]
    exact h9.keepCs (hgs d hg) rfl (fun b hb=>Kb w arr ty b hb) hr hf)
  (by
    intro k hk
    simp only [V.toks,yf] at hk
    rcases hk with rfl | hk
    · exact .inl rfl
    · split at hk
      · cases hk
      · obtain ⟨t,h1,h2⟩:=hf k hk
        exact .inr ⟨⟨t,h1,h2⟩,by have:=(h9.own t k h1).2.1;simp only;omega⟩) l rfl
theorem Inv.newList (h:Inv w0 S0 n s a w S τ) {d:Nat} (hd:d < n) (hg:s d = .gone) {g:Sh} {xs:List V} {arr:Array Value} (ty:TypeId) {cap:Nat} (hx:∀ x∈xs,x.shape=g) (hcap:xs.length≤cap)
    (hfit:cap * g.size≤arr.size) (hr:yC w S τ xs (arr.toList.take (xs.length * g.size))) (hf:∀ k∈V.tokss xs,∃ t,k∈(s t).toks∧(s t).ok=true) (l:Bool) :
    Inv w0 S0 n (upd s d (if l then .lin (.sl (.at d []) g 0 xs) else .sl (.at d []) g 0 xs)) (a.put (some d) (.slice (some ⟨w.heap.size,0,none⟩) xs.length cap)) (Wm w arr ty) S
     (fun k=>if k = .at d [] then ⟨w.heap.size,0,g⟩ else τ k):=
 h.newList2 h (fun _ h=>h) (fun _ u h=>⟨u,h⟩) (fun t _ h=>⟨t,h⟩) hd hg ty hx hcap hfit hr hf l
/-! ## the model's runs -/
theorem Ns (t:TypeId) (v:Value):(newVar t v).run P w = .ok ⟨w.heap.size,0,none⟩ (Wm w v.cells t):=by
 simp [newVar,newRow,Wm]
theorem zgB {t:TypeId} {info:TypeInfo} {z:Value} (hi:P.info? t=some info) (hz:info.zero=some z) :
    (Instr.alloc t true (.tuple #[])).run P w = .ok (.pointer (some ⟨w.heap.size,0,none⟩)) (Wm w z.cells t):=by
 have hzv:(zeroValue t).run P w = .ok z w:=by simp [zeroValue,typeInfo,hi,hz]
 simp [Instr.alloc,hzv,Ns]
theorem zku {t:TypeId} {v:Value}:(Instr.box t v).run P w = .ok (.pointer (some ⟨w.heap.size,0,none⟩)) (Wm w v.cells t):=by
 simp [Instr.box,Ns]
def Yi (z:Array Value) (m:Nat):Array Value:=(Array.range m).map (z[· % z.size]!)
theorem Mn (z:Array Value) (m i:Nat) (hz:0 < z.size):(Yi z m).toList[i]?=if i < m then z.toList[i % z.size]? else none:=by
 unfold Yi
 simp only [Array.toList_map,Array.toList_range,List.getElem?_map]
 by_cases h:i < m
 · rw [if_pos h,List.getElem?_range h]
   have:i % z.size < z.size:=Nat.mod_lt _ hz
   simp [this]
 · rw [zy h,Z3 (by simp;omega)];rfl
theorem Uh {v:V} {z:Array Value} (hv:zT w S τ v z.toList):∀ (k:Nat) (cs:List Value),(∀ i,cs[i]?=if i < k * v.shape.size then z.toList[i % z.size]? else none)→yC w S τ (List.replicate k v) cs
 | 0,cs,h=>by
   simp only [List.replicate_zero,yC]
   exact ZE (by
    cases cs with
    | nil=>rfl
    | cons c cs=>have:=h 0;simp at this)
 | k + 1,cs,h=>by
   have hl:=vE _ _ _ _ _ hv
   simp at hl
   simp only [List.replicate_succ,yC]
   by_cases hz:v.shape.size=0
   · have e:z.toList=[]:=ZE (by rw [Array.length_toList];omega)
     have hcs:cs=[]:=by
      apply ZE
      cases cs with
      | nil=>rfl
      | cons c cs=>have:=h 0;simp [hz] at this
     subst hcs
     rw [hz]
     refine ⟨by simpa [e] using hv,Uh hv k _ fun i=>by simp [hz]⟩
   · refine ⟨?_,Uh hv k _ fun i=>?_⟩
     · have:cs.take v.shape.size=z.toList:=by
        apply List.ext_getElem?
        intro i
        rw [List.getElem?_take]
        by_cases hi:i < v.shape.size
        · rw [if_pos hi,h i,if_pos (by rw [Nat.add_mul];omega),hl,Nat.mod_eq_of_lt hi]
        · rw [zy hi,Z3 (by simp;omega)]
       rw [this];exact hv
     · rw [List.getElem?_drop,h]
       by_cases hi:i < k * v.shape.size
       · rw [if_pos (by rw [Nat.add_mul];omega),if_pos hi,hl,Nat.add_mod_left]
       · rw [zy (by rw [Nat.add_mul];omega),zy hi]
theorem zag (z:Array Value) (m k:Nat) (hz:0 < z.size) (hk:k≤m):∀ i,((Yi z m).toList.take k)[i]?=if i < k then z.toList[i % z.size]? else none:=by
 intro i
 rw [List.getElem?_take]
 by_cases h:i < k
 · rw [if_pos h,if_pos h,Mn z m i hz,if_pos (by omega)]
 · rw [zy h,zy h]
theorem N2 {t e:TypeId} {info:TypeInfo} {z:Value} {k k':IntKind} {m:Int} (hu:P.underlying t=some (.slice e)) (hi:P.info? e=some info) (hz:info.zero=some z)
    (hm0:0≤m) (hm:m≤2 ^ 40) (hb:info.bytes≤128) (hs:info.size=z.cells.size) :
    (Instr.makeSlice t (.int k m) (.int k' m)).run P w = .ok (.slice (some ⟨w.heap.size,0,none⟩) m.toNat m.toNat) (Wm w (Yi z.cells (m.toNat * info.size)) e):=by
 have hwrap:IntKind.i64.wrap m=m:=by
  have e:m % (2 ^ 64:Int)=m:=Int.emod_eq_of_lt hm0 (by omega)
  show (if (true && decide (m % (2 ^ 64:Int)≥(2 ^ 63:Int)))=true then m % (2 ^ 64:Int) - (2 ^ 64:Int) else m % (2 ^ 64:Int))=m
  simp only [e,z6,ya]
  rw [zy (by omega)]
 have htl:¬ ((decide (m < 0) || decide ((info.bytes:Int) * m > 2 ^ 48))=true):=by
  have:(info.bytes:Int) * m≤128 * 2 ^ 40:=Int.mul_le_mul (by omega) hm hm0 (by omega)
  simp only [y8,ya];omega
 have hcond:((decide (m < 0) || decide ((info.bytes:Int) * m > 2 ^ 48)) || decide (m < 0) || decide (m > m))=false:=by
  simp only [y8,ya,not_or,Int.not_lt] at htl
  simp;omega
 have hzv:(zeroValue e).run P w = .ok z w:=by simp [zeroValue,typeInfo,hi,hz]
 simp only [Instr.makeSlice,xp,run_underlying hu,xi,asInt,asIntOf,Sem.run_pure,typeInfo,run_program,hi,hwrap,hcond,yD,yb,Sem.run_ite,run_askRoom]
 simp only [sizeOf,typeInfo,xp,run_program,xi,hi,Sem.run_pure]
 by_cases h0:m.toNat * info.size=0
 · simp only [h0,z5]
   have e0:Array.range 0=#[]:=rfl
   simp [newRow,Wm,Yi,e0]
 · simp only [h0,yb,hzv,xi]
   simp [newRow,Wm,Yi]
end
section
variable {P:Program} {w0:Ori} {S0:Nat→Prop} {n:Nat} {s:Nat→V} {a:Act} {w:World} {S:Nat→Prop} {τ:Tok→Blk}
mutual
theorem UJ {f:Tok→Option Tok} (hn:f .nl=some .nl):∀ v:V,(∀ k∈v.toks,f k=some k)→V.map f v=v
 | .dead,_ | .gone,_ | .int ..,_ | .bool _,_=>rfl
 | .lin v,h=>by simp only [V.map];rw [UJ hn v (by simpa [V.toks] using h)]
 | .tup vs,h=>by simp only [V.map];rw [WO hn vs (by simpa [V.toks] using h)]
 | .agg vs,h=>by simp only [V.map];rw [WO hn vs (by simpa [V.toks] using h)]
 | .fn g fs vs,h=>by
   simp only [V.map]
   rw [WO hn fs (fun k hk=>h k (by simp [V.toks,hk])),WO hn vs (fun k hk=>h k (by simp [V.toks,hk]))]
 | .ref t i q c,h=>by
   cases t with
   | sh=>rfl
   | nl=>
     simp only [V.map,hn]
     rw [UJ hn c (fun k hk=>h k (by simp [V.toks,hk]))]
   | «at» r p=>
     simp only [V.map,h (.at r p) (by simp [V.toks])]
     rw [UJ hn c (fun k hk=>h k (by simp [V.toks,hk]))]
   | bx r=>
     simp only [V.map,h (.bx r) (by simp [V.toks])]
     rw [UJ hn c (fun k hk=>h k (by simp [V.toks,hk]))]
 | .sl t g lo xs,h=>by
   have key:(∀ k∈(if g.flat then [] else V.tokss xs),f k=some k)→(if g.flat then xs else V.maps f xs)=xs:=by
    intro hk
    split
    · rfl
    · rename_i hg
      exact WO hn xs (by simpa [hg] using hk)
   cases t with
   | sh=>rfl
   | nl=>
     simp only [V.map,hn]
     rw [key (by simpa [V.toks] using h)]
   | «at» r p=>
     simp only [V.map,h (.at r p) (by simp [V.toks])]
     rw [key (fun k hk=>h k (by simp only [V.toks,yf];exact .inr hk))]
   | bx r=>
     simp only [V.map,h (.bx r) (by simp [V.toks])]
     rw [key (fun k hk=>h k (by simp only [V.toks,yf];exact .inr hk))]
theorem WO {f:Tok→Option Tok} (hn:f .nl=some .nl):∀ vs:List V,(∀ k∈V.tokss vs,f k=some k)→V.maps f vs=vs
 | [],_=>rfl
 | v :: vs,h=>by
   simp only [V.maps]
   rw [UJ hn v (fun k hk=>h k (by simp [V.tokss,hk])),WO hn vs (fun k hk=>h k (by simp [V.tokss,hk]))]
end
mutual
theorem L0 {w:World} {S:Nat→Prop} {τ:Tok→Blk}:∀ (v:V) (cs:List Value),zT w S τ v cs→∀ c∈cs,c.oneCell'=true
 | .dead,cs,h=>by
   simp only [zT] at h
   obtain ⟨c,rfl,h⟩:=h
   simpa using h
 | .gone,_,h=>by simp [zT] at h
 | .lin _,_,h=>by simp [zT] at h
 | .tup _,_,h=>by simp [zT] at h
 | .int ..,cs,h=>by simp only [zT] at h;subst h;simp [Value.oneCell']
 | .bool ..,cs,h=>by simp only [zT] at h;subst h;simp [Value.oneCell']
 | .agg vs,cs,h=>by simp only [zT] at h;exact KR vs cs h
 | .fn ..,cs,h=>by simp only [zT] at h;obtain ⟨_,_,rfl,_⟩:=h;simp [Value.oneCell']
 | .ref ..,cs,h=>by simp only [zT] at h;obtain ⟨_,_,_,_,_,rfl,_⟩:=h;simp [Value.oneCell']
 | .sl ..,cs,h=>by simp only [zT] at h;obtain ⟨_,_,rfl,_⟩:=h;simp [Value.oneCell']
theorem KR {w:World} {S:Nat→Prop} {τ:Tok→Blk}:∀ (vs:List V) (cs:List Value),yC w S τ vs cs→∀ c∈cs,c.oneCell'=true
 | [],cs,h=>by simp only [yC] at h;subst h;simp
 | v :: vs,cs,h=>by
   simp only [yC] at h
   intro c hc
   rw [← Y5 v.shape.size cs] at hc
   rcases zO.1 hc with hc | hc
   · exact L0 v _ h.1 c hc
   · exact KR vs _ h.2 c hc
end
theorem U2 {b off:Nat} {arr:Array Value} {ty:TypeId} (h:w.heap[b]?=some (.cells arr ty (0,0))) {us:List Value} (hfit:off + us.length≤arr.size) (h1:∀ c∈us,c.oneCell'=true) :
    ∃ w',(storeCells ⟨b,off,none⟩ us).run P w = .ok () w'∧Wr w w' b off us∧w'.os=w.os∧w'.tape=w.tape∧w'.output=w.output∧w'.heap.size=w.heap.size:=by
 refine ⟨_,run_storeCells_at P b off ty us 0 arr w h (by simpa using hfit) h1,⟨⟨arr,ty,(Zy arr.toList off us).toArray,h,?_,by simp,hfit⟩,?_⟩,rfl,rfl,rfl,by simp [World.setRow]⟩
 · rw [setRow_heap w b arr _ ty _ h]
   simp [Zy]
 · intro k hk
   simp only [World.setRow,Array.getElem?_modify]
   rw [zy (by omega)]
theorem LH {e:Nat} {h:Sh} {t lo ys} {x:Value} (hx:zR w S τ (.sl t h lo ys) x) (he:e=h.size) :
    ∃ cs:List Value,(Builtin.firstCells e ys.length x).run P w = .ok cs.toArray w∧yC w S τ ys cs∧cs.length=ys.length * h.size:=by
 subst he
 obtain ⟨a',cap,rfl,hle,hsx,hsh,hh⟩:=XX hx
 rcases hh with h0 | ⟨b,off,arr,ty,fz,rfl,hw,hp,hfit,hr⟩
 · have:ys=[]:=ZE (by omega)
   subst this
   refine ⟨[],?_,by simp [yC],by simp⟩
   cases a' with
   | none=>simp [Builtin.firstCells]
   | some x=>simp [Builtin.firstCells,loadCells,loadCellsFrom]
 · have hm:ys.length * h.size≤cap * h.size:=ud _ hle
   refine ⟨(arr.toList.drop off).take (ys.length * h.size),?_,hr,by simp;omega⟩
   simp only [Builtin.firstCells]
   exact JD hw (by omega)
theorem Qr (m:Nat):∀ (r c:Nat),c≤2 * m + 200→Builtin.growBy m r c≤2 * m + 200
 | 0,c,h=>by simpa [Builtin.growBy] using h
 | r + 1,c,h=>by
   unfold Builtin.growBy
   split
   · exact h
   · exact Qr m r _ (by omega)
theorem zdA (m c:Nat) (h:c < m):Builtin.nextslicecap m c≤2 * m + 200:=by
 unfold Builtin.nextslicecap
 split
 · omega
 · split
   · omega
   · exact Qr m 4 c (by omega)
end
section
variable {P:Program} {w0:Ori} {S0:Nat→Prop} {n:Nat} {s:Nat→V} {a:Act} {w:World} {S:Nat→Prop} {τ:Tok→Blk}
def Uy (t:Tok) (i:Nat) (q:List Nat) (u:V) (s:Nat→V):Nat→V:=fun k=>V.mut t i q u (s k)
theorem zkY {t i q u} {v x:V} (h:V.mut t i q u v = .lin x):∃ y,v = .lin y:=by
 cases v with
 | lin y=>exact ⟨y,rfl⟩
 | sl t' g lo xs=>cases t' <;> simp only [V.mut] at h <;> (repeat' split at h) <;> cases h
 | ref t' i' q' c=>cases t' <;> simp only [V.mut] at h <;> (repeat' split at h) <;> cases h
 | _=>simp [V.mut] at h
theorem zjU {t i q u} {v:V} (h:V.mut t i q u v = .gone):v = .gone:=by
 cases v with
 | gone=>rfl
 | sl t' g lo xs=>cases t' <;> simp only [V.mut] at h <;> (repeat' split at h) <;> cases h
 | ref t' i' q' c=>cases t' <;> simp only [V.mut] at h <;> (repeat' split at h) <;> cases h
 | _=>simp [V.mut] at h
theorem Wr.rows {w w':World} {b0 o:Nat} {us:List Value} (h:Wr w w' b0 o us):∀ (b:Nat) (arr:Array Value) (ty:TypeId) (fz:Nat×Nat),w.heap[b]?=some (.cells arr ty fz)→∃ arr',w'.heap[b]?=some (.cells arr' ty fz)∧arr'.size=arr.size:=by
 intro b arr ty fz e
 by_cases hb:b=b0
 · subst hb
   obtain ⟨arr0,ty0,arr',hwo,hwn,hsp,hfit'⟩:=h.old
   rw [hwo] at e
   simp only [zn,Obj.cells.injEq] at e
   obtain ⟨rfl,rfl,rfl⟩:=e
   refine ⟨arr',hwn,?_⟩
   have:=XT (cs:=arr0.toList) (o:=o) (us:=us) (by simpa using hfit')
   rw [← hsp] at this;simpa using this
 · exact ⟨arr,by rw [h.other b hb];exact e,rfl⟩
def zhT:V→Bool
 | .ref (.bx _) _ [] .dead=>true
 | v=>v.toks.isEmpty
def zkJ:V→Bool
 | .fn _ [] env=>env.all zhT
 | _=>false
theorem Nd {w':World} {b off:Nat} {us:List Value} (hw:Wr w w' b off us) {t:Tok} (hown:t≠.sh∧t≠.nl) (hb:(τ t).b=b) (hS:¬ S b)
    {i:Nat} {q:List Nat} {o:Nat} (ho:(τ t).h.off q=some (o,Sh.p)) (hoff:off=(τ t).base + i * (τ t).h.size + o) (hu:zT w' S τ .dead us) :
    ∀ (env:List V) (cs:List Value),env.all zhT=true→(∀ k∈V.tokss env,k≠t→(τ k).b≠b)→yC w S τ env cs→yC w' S τ env cs
 | [],cs,_,_,h=>by simpa [yC] using h
 | v :: vs,cs,hk,ht,h=>by
   simp only [List.all_cons,zp] at hk
   simp only [yC] at h ⊢
   refine ⟨?_,Nd hw hown hb hS ho hoff hu vs _ hk.2 (fun k h'=>ht k (by simp [V.tokss,h'])) h.2⟩
   have hk1:=hk.1
   unfold zhT at hk1
   split at hk1
   · rename_i r i'
     have h2:=WV hw hown hb hS ho hoff hu rfl _ _ h.1 (fun k h'=>ht k (by simp only [V.tokss,zO];exact .inl h'))
     have h3:V.mut t i q .dead (.ref (.bx r) i' [] .dead) = .ref (.bx r) i' [] .dead:=by
      simp only [V.mut]
      split
      · simp only [true_or,z5,V.seen]
        cases q <;> rfl
      · rfl
     rw [h3] at h2
     exact h2
   · have h0:v.toks=[]:=by simpa using hk1
     exact wy (fun b' hb'=>⟨hb',hw.other b' (fun e=>hS (e ▸ hb'))⟩) _ _ h.1 (by rw [h0];intro k hk;cases hk)
theorem zgS {w':World} {b off:Nat} {us:List Value} (hw:Wr w w' b off us) {t:Tok} (hown:t≠.sh∧t≠.nl) (hb:(τ t).b=b) (hS:¬ S b)
    {i:Nat} {q:List Nat} {o:Nat} (ho:(τ t).h.off q=some (o,Sh.p)) (hoff:off=(τ t).base + i * (τ t).h.size + o) (hu:zT w' S τ .dead us) {v:V} (hk:zkJ v=true)
    (ht:∀ k∈v.toks,k≠t→(τ k).b≠b) {cs:List Value} (h:zT w S τ v cs):zT w' S τ v cs:=by
 unfold zkJ at hk
 split at hk
 · simp only [zT] at h ⊢
   obtain ⟨fst,cap,e,h1,h2⟩:=h
   exact ⟨fst,cap,e,by simpa [vY] using h1,Nd hw hown hb hS ho hoff hu _ _ hk (fun k h'=>ht k (by simp [V.toks,h'])) h2⟩
 · cases hk
theorem Inv.store (h:Inv w0 S0 n s a w S τ) {t:Tok} {i:Nat} {q:List Nat} {c v:V} {x:Value} {us:List Value} (hx:zR w S τ (.ref t i q c) x) (hfx:Kg s (.ref t i q c)) (hown:t≠.sh∧t≠.nl)
    (hv:zT w S τ v us) (hfv:Kg s v) (hsh:v.shape=c.shape) (htv:t∉v.toks∨zkJ v=true) :
    ∃ b off w',x = .pointer (some ⟨b,off,none⟩)∧(storeCells ⟨b,off,none⟩ us).run P w = .ok () w'∧Inv w0 S0 n (Uy t i q v s) a w' S τ:=by
 obtain ⟨b,off,arr,ty,fz,rfl,hw,hp,hle,hshr,hr⟩:=Z5 hx
 have htt:t∈(V.ref t i q c).toks:=by cases t <;> simp_all [V.toks]
 obtain ⟨t0,ht0,_⟩:=hfx t htt
 have hp':(τ t).b=b∧fz=(0,0)∧∃ o,(τ t).h.off q=some (o,c.shape)∧off=(τ t).base + i * (τ t).h.size + o:=by
  cases t with
  | sh=>exact absurd rfl hown.1
  | nl=>exact absurd rfl hown.2
  | _=>exact hp
 obtain ⟨hpb,rfl,o,ho,hoff⟩:=hp'
 have hob:=h.own t0 t ht0
 rw [hpb] at hob
 have hl:=vE _ _ _ _ _ hv
 obtain ⟨w',hrun,hwr,e1,e2,e3,e4⟩:=U2 (P:=P) hw (us:=us) (by rw [hl,hsh];exact hle) (L0 v us hv)
 have hvw:zT w' S τ v us:=by
  rcases htv with htv | htv
  · exact wy (fun b' hb'=>⟨hb',hwr.other b' (fun e=>hob.2.2 (e ▸ hb'))⟩) v us hv (by
     intro k hk
     refine ⟨rfl,hwr.other _ ?_⟩
     obtain ⟨t1,h1,_⟩:=hfv k hk
     intro e
     have:=h.inj t1 t0 k t h1 ht0 (by rw [e,hpb])
     subst this;exact htv hk)
  · have hvp:v.shape = .p:=by
     unfold zkJ at htv
     split at htv
     · rfl
     · cases htv
    rw [← hsh,hvp] at ho
    have hd:zT w' S τ .dead us:=by
     have h1:=L0 v us hv
     rw [hvp] at hl
     match us,hl,h1 with
     | [x],_,h1=>exact ⟨x,rfl,h1 x (by simp)⟩
    exact zgS hwr hown hpb hob.2.2 ho hoff hd htv (fun k hk hne e=>by
     obtain ⟨t1,h1,_⟩:=hfv k hk
     exact hne (h.inj t1 t0 k t h1 ht0 (by rw [e,hpb]))) hv
 have key:∀ t1 k,k∈(Uy t i q v s t1).toks→k∈(s t1).toks∨∃ t2,k∈(s t2).toks∧(s t2).ok=true:=by
  intro t1 k hk
  rcases Lg t i q v (s t1) k hk with h1 | h1
  · exact .inl h1
  · exact .inr (hfv k h1)
 have key':∀ t1 k,k∈(Uy t i q v s t1).toks→∃ t2,k∈(s t2).toks:=by
  intro t1 k hk
  rcases key t1 k hk with h1 | ⟨t2,h2,_⟩
  · exact ⟨t1,h1⟩
  · exact ⟨t2,h2⟩
 refine ⟨b,off,w',rfl,hrun,⟨?_,h.size,h.defers,?_,?_,?_,h.sfr,h.s0,?_,?_,?_,h.small,?_⟩⟩
 · intro t1
   refine Nq hwr hown hpb hob.2.2 ho hoff hvw hsh _ _ (h.told t1) ?_
   intro k hk hne e
   have:=h.inj t1 t0 k t hk ht0 (by rw [e,hpb])
   exact hne this
 · intro t1 k hk
   obtain ⟨t2,h2⟩:=key' t1 k hk
   rw [e4];exact h.own t2 k h2
 · intro t1 t1' k k' hk hk' e
   obtain ⟨t2,h2⟩:=key' t1 k hk
   obtain ⟨t2',h2'⟩:=key' t1' k' hk'
   exact h.inj t2 t2' k k' h2 h2' e
 · intro b' hb';rw [e4];exact h.sbd b' hb'
 · exact h.below.trans ⟨e1,e2,e3,by rw [e4];exact xF _,fun k _ hk=>hwr.other k (by rintro rfl;exact hk hob.1),hwr.rows⟩
 · intro r u t1 k hl' ht hk
   obtain ⟨y,hy⟩:=zkY hl'
   rcases key t1 k hk with h1 | ⟨t2,h2,hok⟩
   · exact h.lin r y t1 k hy ht h1
   · exact h.lin r y t2 k hy (by rintro rfl;rw [hy] at hok;simp [V.ok] at hok) h2
 · intro r t1 k hg hk
   have hy:=zjU hg
   obtain ⟨t2,h2⟩:=key' t1 k hk
   exact h.gone r t2 k hy h2
 · intro t1 k hk hp'
   obtain ⟨t2,h2⟩:=key' t1 k hk
   exact h.pin t2 k h2 hp'
def spent (s:Nat→V) (x:O):Option ((Nat→V)×V):=
 match x with
 | .t r=>match s r with
   | .lin (.sl (.at r' p) h lo xs)=>if r'=r && (V.tokss xs).isEmpty then some (upd s r .dead,.sl (.at r' p) h lo xs) else none
   | .sl (.at r' p) h lo xs=>if !((V.tokss xs).contains (.at r' p)) then some (WZ (fun k=>if k == .at r' p then none else some k) s,.sl (.at r' p) h lo xs) else none
   | .sl .nl h lo xs=>some (s,.sl .nl h lo xs)
   | _=>none
 | .k (.sl .nl h lo xs)=>some (s,.sl .nl h lo xs)
 | _=>none
theorem Inv.spent (h:Inv w0 S0 n s a w S τ) {x:O} {s1:Nat→V} {v:V} (he:spent s x=some (s1,v)):Inv w0 S0 n s1 a w S τ ∧
    ∃ t g lo xs,v = .sl t g lo xs∧(t = .nl∨∃ r p,t = .at r p∧(∀ k∈V.tokss xs,k≠t∧∃ t0,k∈(s t0).toks∧(s t0).ok=true)∧(∃ t0,t∈(s t0).toks)∧∀ t1 k,k∈(s1 t1).toks→(τ k).b≠(τ t).b) ∧
     (∀ t1 k,k∈(s1 t1).toks→k∈(s t1).toks)∧(∀ r,s1 r = .gone→s r = .gone)∧(∀ r u,s1 r = .lin u→∃ u',s r = .lin u')∧(∀ t1,s t1 = .gone→s1 t1 = .gone)∧(∀ t1,(s t1).ok=true→t∉(s t1).toks→s1 t1=s t1):=by
 unfold Zq.spent at he
 split at he
 · rename_i r
   split at he
   · rename_i r' p g lo xs hs
     split at he
     · rename_i hc
       simp only [zp,ya,List.isEmpty_iff] at hc
       simp only [zn,Prod.mk.injEq] at he
       obtain ⟨rfl,rfl⟩:=he
       obtain ⟨rfl,hc2⟩:=hc
       have hin:Tok.at r' p∈(s r').toks:=by rw [hs];simp [V.toks]
       have hsub:∀ t1 k,k∈(upd s r' .dead t1).toks→k∈(s t1).toks∧t1≠r':=by
        intro t1 k hk
        by_cases e:t1=r'
        · subst e;rw [upd_same] at hk;simp [V.toks] at hk
        · rw [zX _ _ e] at hk;exact ⟨hk,e⟩
       refine ⟨h.drop r',.at r' p,g,lo,xs,rfl,.inr ⟨r',p,rfl,(fun k hk=>by rw [hc2] at hk;cases hk),⟨r',hin⟩,?_⟩,fun t1 k hk=>(hsub t1 k hk).1,?_,?_,?_,?_⟩
       · intro t1 k hk e
         have h1:=hsub t1 k hk
         have:=h.inj t1 r' k _ h1.1 hin e
         subst this
         exact h.lin r' _ t1 _ hs h1.2 h1.1 rfl
       · intro q hq
         by_cases e:q=r'
         · subst e;rw [upd_same] at hq;cases hq
         · rw [zX _ _ e] at hq;exact hq
       · intro q u hq
         by_cases e:q=r'
         · subst e;rw [upd_same] at hq;cases hq
         · rw [zX _ _ e] at hq;exact ⟨u,hq⟩
       · intro t1 hg
         rw [zX _ _ (by rintro rfl;rw [hs] at hg;cases hg)];exact hg
       · intro t1 hok _
         rw [zX _ _ (by rintro rfl;rw [hs] at hok;simp [V.ok] at hok)]
     · cases he
   · rename_i r' p g lo xs hs
     split at he
     · rename_i hc
       have hc:Tok.at r' p∉V.tokss xs:=by simpa using hc
       simp only [zn,Prod.mk.injEq] at he
       obtain ⟨rfl,rfl⟩:=he
       have hin:Tok.at r' p∈(s r).toks:=by rw [hs];simp [V.toks]
       have hp:(fun k:Tok=>k == .at r' p) .nl=false:=by simp
       have hk:=h.kill (fun k=>k == .at r' p) hp
       have hsub:∀ t1 k,k∈(WZ (fun k=>if k == .at r' p then none else some k) s t1).toks→k∈(s t1).toks∧k≠.at r' p:=by
        intro t1 k hk
        have:=Km (p:=fun k=>k == .at r' p) hp hk
        exact ⟨this.1,by simpa using this.2⟩
       refine ⟨hk,.at r' p,g,lo,xs,rfl,.inr ⟨r',p,rfl,?_,⟨r,hin⟩,?_⟩,fun t1 k hk=>(hsub t1 k hk).1,fun _ h=>N0 h,fun _ _ h=>zb4 h,?_,?_⟩
       · intro k hk
         refine ⟨fun e=>hc (e ▸ hk),r,?_,by rw [hs];rfl⟩
         rw [hs]
         have hr0:=h.told r
         rw [hs] at hr0
         obtain ⟨_,_,_,_,hsx,_,_⟩:=XX hr0
         exact Wt hsx (by simp) k hk
       · intro t1 k hk e
         have h1:=hsub t1 k hk
         exact h1.2 (h.inj t1 r k _ h1.1 hin e)
       · intro t1 hg
         simp [WZ,hg,V.map]
       · intro t1 _ hnt
         exact UJ (by simp) _ (fun k hk=>by
          have:k≠.at r' p:=by rintro rfl;exact hnt hk
          simp [this])
     · cases he
   · rename_i g lo xs hs
     simp only [zn,Prod.mk.injEq] at he
     obtain ⟨rfl,rfl⟩:=he
     exact ⟨h,.nl,g,lo,xs,rfl,.inl rfl,fun t1 k hk=>hk,fun _ h=>h,fun _ u h=>⟨u,h⟩,fun t1 hg=>hg,fun t1 _ _=>rfl⟩
   · cases he
 · rename_i g lo xs
   simp only [zn,Prod.mk.injEq] at he
   obtain ⟨rfl,rfl⟩:=he
   exact ⟨h,.nl,g,lo,xs,rfl,.inl rfl,fun t1 k hk=>hk,fun _ h=>h,fun _ u h=>⟨u,h⟩,fun t1 hg=>hg,fun t1 _ _=>rfl⟩
 · cases he
end
end Go.Zq
