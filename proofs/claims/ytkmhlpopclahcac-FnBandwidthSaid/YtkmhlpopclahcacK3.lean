/- The pure machine: what the model of Go does, told of values without memory (part 3). No further condition. -/
import Derived.Test.YtkmhlpopclahcacK2
import Derived.LoopN
import Derived.Deep.Slices
import Derived.Deep.Strs
import Derived.WalkKit
import Derived.ProofKit
import Derived.OpenShut
import Derived.ShutString
import Derived.ChangeOld
import Derived.Below
import Derived.SizedLaws
import Derived.Carry
set_option linter.unusedVariables false
set_option linter.unusedSimpArgs false
namespace Go.Zq
def zhY:List Oper→List (List Nat)→List (List Nat)
 | [],acc=>acc
 | o :: os,acc=>zhY os (acc++[((o.after.toList.filter (Region.binds .any)).flatMap fun e=>e.on :: acc.getD e.on []).eraseDups])
def zdK (ops:Array Oper) (xs:List I):Bool:=
 let an:=zhY ops.toList []
 (List.range ops.size).all fun i=>
   (match ops[i]? with | some o=>o.after.toList.all fun e=>!Region.binds .any e || decide (e.on < i) | none=>true) &&
   (List.range i).all fun j=>(an.getD i []).contains j || (match xs[j]?,xs[i]? with | some y,some x=>y.apart x | _,_=>false)
def zgS (ops:Array Oper) (listed:Array Bool):Prop:=
 ∀ (i:Nat) (o:Oper) (e:Edge),ops[i]?=some o→e∈o.after.toList→Region.binds .any e=true→listed.getD i false=true→listed.getD e.on false=true
theorem Qk {ops:Array Oper} {listed:Array Bool} (hC:zgS ops listed):∀ (os:List Oper) (acc:List (List Nat)),
    (∀ k,os[k]?=ops[acc.length + k]?)→(∀ i j,(∀ (o:Oper) (e:Edge),ops[i]?=some o→e∈o.after.toList→Region.binds .any e=true→listed.getD e.on false=true)→j∈acc.getD i []→listed.getD j false=true) →
    ∀ i j,(∀ (o:Oper) (e:Edge),ops[i]?=some o→e∈o.after.toList→Region.binds .any e=true→listed.getD e.on false=true)→j∈(zhY os acc).getD i []→listed.getD j false=true
 | [],acc,_,h=>h
 | o :: os,acc,hk,h=>by
   simp only [zhY]
   refine Qk hC os _ ?_ ?_
   · intro k
     have:=hk (k + 1)
     simp only [List.getElem?_cons_succ] at this
     rw [this,List.length_append]
     congr 1
     simp;omega
   · intro i j hi hj
     by_cases hlt:i < acc.length
     · refine h i j hi ?_
       simpa [List.getD_eq_getElem?_getD,List.getElem?_append_left hlt] using hj
     · by_cases he:i=acc.length
       · have ho:=hk 0
         simp only [List.getElem?_cons_zero,Nat.add_zero] at ho
         subst he
         simp only [List.getD_eq_getElem?_getD,List.getElem?_append_right (Nat.le_refl _),Nat.sub_self,List.getElem?_cons_zero,Option.getD_some,List.mem_eraseDups,List.mem_flatMap,List.mem_filter,List.mem_cons] at hj
         obtain ⟨e,⟨he1,he2⟩,rfl | hj⟩:=hj
         · exact hi o e ho.symm he1 he2
         · refine h e.on j ?_ (by simpa [List.getD_eq_getElem?_getD] using hj)
           intro o' e' ho' he' hb'
           exact hC e.on o' e' ho' he' hb' (hi o e ho.symm he1 he2)
       · exfalso
         rw [List.getD_eq_getElem?_getD,List.getElem?_eq_none (by simp;omega)] at hj
         simp at hj
section
variable {P:Program} {w0:Ori} {S0:Nat→Prop} {n:Nat} {s s':Nat→V} {a:Act} {w:World} {S:Nat→Prop} {τ:Tok→Blk}
theorem zfQ {ops:Array Oper} {lin sp:List Nat}:∀ (is:List Nat) (xs:List I) (k i:Nat),cIs P n ops lin sp is=some xs→is[k]?=some i→∃ x,xs[k]?=some x∧cI P n ops lin sp i=some x
 | [],_,k,i,_,h=>by simp at h
 | j :: is,xs,k,i,hc,h=>by
   simp only [cIs] at hc
   split at hc
   · rename_i x xs' hx hxs
     simp only [Option.some.injEq] at hc;subst hc
     cases k with
     | zero=>simp at h;subst h;exact ⟨x,by simp,hx⟩
     | succ k=>obtain ⟨y,h1,h2⟩:=zfQ is xs' k i hxs (by simpa using h);exact ⟨y,by simpa using h1,h2⟩
   · cases hc
def XK (m:Nat) (listed:Array Bool):List Nat:=(List.range m).filter fun i=>!listed.getD i true
theorem ziz {m i:Nat} {listed:Array Bool} (hs:listed.size=m) (hi:i < m):XK m (listed.setIfInBounds i true)=(XK m listed).filter fun j=>decide (j≠i):=by
 unfold XK
 rw [List.filter_filter]
 refine List.filter_congr ?_
 intro j hj
 have hj:j < m:=by simpa using hj
 by_cases e:j=i
 · subst e
   simp [Array.getD_eq_getD_getElem?,Array.getElem?_setIfInBounds_self,hs,hi]
 · simp [Array.getD_eq_getD_getElem?,Array.getElem?_setIfInBounds_ne (Ne.symm e),e]
theorem zhe {i j:Nat} {listed:Array Bool} {d:Bool} (hi:i < listed.size):(listed.setIfInBounds i true).getD j d=if j=i then true else listed.getD j d:=by
 split
 · rename_i e;subst e
   simp [Array.getD_eq_getD_getElem?,Array.getElem?_setIfInBounds_self,hi]
 · rename_i e
   simp [Array.getD_eq_getD_getElem?,Array.getElem?_setIfInBounds_ne (Ne.symm e)]
theorem zgv {D:Den} {σ:Sig} (hF:zr P D σ) {ops:Array Oper} {lin sp:List Nat} {Q:Exit→Act→World→Prop} {xs:List I} (hc:cIs P n ops lin sp (List.range ops.size)=some xs) (hok:zdK ops xs=true) :
    ∀ (fuel:Nat) (listed:Array Bool) (s:Nat→V) (a:Act) (w:World) (S:Nat→Prop) (τ:Tok→Blk),
    listed.size=ops.size→zgS ops listed→(XK ops.size listed).length≤fuel→Inv w0 S0 n s a w S τ→YX D σ ((XK ops.size listed).map fun i=>xs.getD i default) s=some s'→zao w0 S0 n s' (Q .normal) →
    wpAny P .any ops Q fuel listed a w:=by
 have hchk:∀ i o,ops[i]?=some o→(∀ e∈o.after.toList,Region.binds .any e=true→e.on < i)∧∀ j,j < i→((zhY ops.toList []).getD i []).contains j=true∨(xs.getD j default).apart (xs.getD i default)=true:=by
  intro i o ho
  have hi:i < ops.size:=by
   rcases Nat.lt_or_ge i ops.size with h | h
   · exact h
   · rw [Array.getElem?_eq_none h] at ho;cases ho
  simp only [zdK,List.all_eq_true] at hok
  have h:=hok i (by simpa using hi)
  simp only [ho,Bool.and_eq_true,List.all_eq_true] at h
  refine ⟨?_,?_⟩
  · intro e he hb
    have:=h.1 e he
    simpa [hb] using this
  · intro j hj
    have:=h.2 j (by simpa using hj)
    simp only [Bool.or_eq_true] at this
    rcases this with h1 | h1
    · exact .inl h1
    · right
      split at h1
      · rename_i y x hy hx
        simp only [List.getD_eq_getElem?_getD,hy,hx,Option.getD_some];exact h1
      · cases h1
 have hge:∀ i,i < ops.size→∃ o,ops[i]?=some o:=fun i hi=>⟨ops[i],by simp [hi]⟩
 have hready:∀ (listed:Array Bool) i,i∈Region.ready .any ops listed↔i∈XK ops.size listed∧∀ (o:Oper) (e:Edge),ops[i]?=some o→e∈o.after.toList→Region.binds .any e=true→listed.getD e.on false=true:=by
  intro listed i
  simp only [Region.ready,XK,List.mem_filter,Bool.and_eq_true,List.mem_range]
  constructor
  · rintro ⟨h1,h2,h3⟩
    refine ⟨⟨h1,h2⟩,?_⟩
    intro o e ho he hb
    simp only [ho,Option.map_some,Option.getD_some] at h3
    rw [← Array.all_toList,List.all_eq_true] at h3
    have:=h3 e he
    simpa [hb] using this
  · rintro ⟨⟨h1,h2⟩,h3⟩
    refine ⟨h1,h2,?_⟩
    obtain ⟨o,ho⟩:=hge i h1
    simp only [ho,Option.map_some,Option.getD_some]
    rw [← Array.all_toList,List.all_eq_true]
    intro e he
    cases hb:Region.binds .any e with
    | false=>rfl
    | true=>simpa using h3 o e ho he hb
 have hsome:∀ (listed:Array Bool),listed.size=ops.size→Region.ready .any ops listed=[]→XK ops.size listed=[]:=by
  intro listed hsz hr
  cases ht:XK ops.size listed with
  | nil=>rfl
  | cons i rest=>
    exfalso
    have hi:i∈XK ops.size listed:=by rw [ht];simp
    have hi2:i < ops.size:=by simp [XK] at hi;exact hi.1
    have:i∈Region.ready .any ops listed:=by
     rw [hready]
     refine ⟨hi,?_⟩
     intro o e ho he hb
     have hlt:=(hchk i o ho).1 e he hb
     cases hv:listed.getD e.on false with
     | true=>rfl
     | false=>
       exfalso
       have hm:e.on∈XK ops.size listed:=by
        simp only [XK,List.mem_filter,List.mem_range]
        refine ⟨by omega,?_⟩
        have:e.on < listed.size:=by omega
        simp only [Array.getD_eq_getD_getElem?,Array.getElem?_eq_getElem this,Option.getD_some] at hv ⊢
        simp [hv]
       have hsorted:List.Pairwise (· < ·) (XK ops.size listed):=List.Pairwise.filter _ List.pairwise_lt_range
       rw [ht] at hm hsorted
       rcases List.mem_cons.1 hm with h | h
       · omega
       · have:=(List.pairwise_cons.1 hsorted).1 _ h;omega
    rw [hr] at this;cases this
 intro fuel
 induction fuel with
 | zero=>
   intro listed s a w S τ hsz hC hle hI hst hK
   have ht:XK ops.size listed=[]:=List.length_eq_zero_iff.1 (by omega)
   rw [ht] at hst
   simp only [List.map_nil,YX,Option.some.injEq] at hst;subst hst
   refine ⟨?_,hK _ _ _ _ hI⟩
   cases hr:Region.ready .any ops listed with
   | nil=>rfl
   | cons i rest=>
     have:i∈XK ops.size listed:=((hready listed i).1 (by rw [hr];simp)).1
     rw [ht] at this;cases this
 | succ fuel ih=>
   intro listed s a w S τ hsz hC hle hI hst hK
   refine ⟨?_,?_⟩
   · intro hr
     rw [hsome listed hsz hr] at hst
     simp only [List.map_nil,YX,Option.some.injEq] at hst;subst hst
     exact hK _ _ _ _ hI
   · intro i hi
     obtain ⟨hit,hidep⟩:=(hready listed i).1 hi
     have hi2:i < ops.size:=by simp [XK] at hit;exact hit.1
     obtain ⟨o,ho⟩:=hge i hi2
     obtain ⟨pre,post,hpp⟩:=List.append_of_mem hit
     have hsorted:List.Pairwise (· < ·) (XK ops.size listed):=List.Pairwise.filter _ List.pairwise_lt_range
     rw [hpp] at hst hsorted
     simp only [List.map_append,List.map_cons] at hst
     have hpre:∀ j∈pre,j < i:=fun j hj=>(List.pairwise_append.1 hsorted).2.2 j hj i (by simp)
     have hpost:∀ j∈post,i < j:=fun j hj=>(List.pairwise_cons.1 (List.pairwise_append.1 hsorted).2.1).1 j hj
     obtain ⟨s1,h1,h2⟩:=Lu (pre.map fun i=>xs.getD i default) (post.map fun i=>xs.getD i default) s s' (by
      intro J hJ
      obtain ⟨j,hj,rfl⟩:=List.mem_map.1 hJ
      rcases (hchk i o ho).2 j (hpre j hj) with h | h
      · exfalso
        have hlj:=Qk hC ops.toList [] (by intro k;simp) (by intro i j _ hj;simp at hj) i j hidep (by simpa using h)
        have hjt:j∈XK ops.size listed:=by rw [hpp];simp [hj]
        have hj2:j < ops.size:=by have:=hpre j hj;omega
        simp only [XK,List.mem_filter] at hjt
        have hb:j < listed.size:=by omega
        simp only [Array.getD_eq_getD_getElem?,Array.getElem?_eq_getElem hb,Option.getD_some] at hlj hjt
        simp [hlj] at hjt
      · exact h) hst
     obtain ⟨x,hx1,hx2⟩:=zfQ (List.range ops.size) xs i i hc (by simp [hi2])
     have hx3:xs.getD i default=x:=by simp [List.getD_eq_getElem?_getD,hx1]
     rw [hx3] at h1
     have htodo:XK ops.size (listed.setIfInBounds i true)=pre++post:=by
      rw [ziz hsz hi2,hpp,List.filter_append,List.filter_cons]
      simp only [ne_eq,not_true_eq_false,decide_false,Bool.false_eq_true,if_false]
      rw [List.filter_eq_self.2 (by intro j hj;have:=hpre j hj;simp;omega),List.filter_eq_self.2 (by intro j hj;have:=hpost j hj;simp;omega)]
     refine zcu hF hx2 hI h1 ?_
     intro a' w' S' τ' hI'
     refine ih (listed.setIfInBounds i true) s1 a' w' S' τ' (by simp [hsz]) ?_ ?_ hI' ?_ hK
     · intro k o' e ho' he hb hl
       have hisz:i < listed.size:=by omega
       rw [zhe hisz] at hl ⊢
       split
       · rfl
       · rename_i hne
         split at hl
         · rename_i hk
           subst hk
           exact hidep o' e ho' he hb
         · exact hC k o' e ho' he hb hl
     · rw [htodo]
       rw [hpp] at hle
       simp at hle ⊢;omega
     · rw [htodo,List.map_append];exact h2
end
end Go.Zq
namespace Go.Zq
section
variable {P:Program} {w0:Ori} {S0:Nat→Prop} {n:Nat} {s s':Nat→V} {a:Act} {w:World} {S:Nat→Prop} {τ:Tok→Blk}
def Tok.move (r x:Nat):Tok→Tok
 | .at r' p=>if r'=r then .at x p else .at r' p
 | .bx r'=>if r'=r then .bx x else .bx r'
 | k=>k
def Us (r x:Nat) (k:Tok):Option Tok:=if r=x then some k else if k.root?=some x then none else some (k.move r x)
theorem zgG (r x:Nat):Lz (Us r x) τ (fun k=>if r=x then τ k else if k.root?=some x then τ (k.move x r) else τ k):=by
 by_cases hrx:r=x
 · subst hrx
   simp [Lz,Us]
 · refine ⟨?_,?_,by simp [Us,hrx,Tok.root?,Tok.move]⟩
   · intro r' p k e
     simp only [Us,hrx,if_false,Tok.root?,Option.some.injEq] at e
     split at e
     · cases e
     · rename_i hne
       simp only [Option.some.injEq] at e
       by_cases h:r'=r
       · subst h
         simp only [Tok.move,if_true] at e;subst e
         simp [Tok.root?,Tok.move,hrx]
       · simp only [Tok.move,h,if_false] at e;subst e
         simp [Tok.root?,hne,hrx]
   · intro r' k e
     simp only [Us,hrx,if_false,Tok.root?,Option.some.injEq] at e
     split at e
     · cases e
     · rename_i hne
       simp only [Option.some.injEq] at e
       by_cases h:r'=r
       · subst h
         simp only [Tok.move,if_true] at e;subst e
         simp [Tok.root?,Tok.move,hrx]
       · simp only [Tok.move,h,if_false] at e;subst e
         simp [Tok.root?,hne,hrx]
theorem zgr {r x:Nat} {k:Tok}:(k.move r x).root?=some x∨(k.move r x).root?=k.root?:=by
 cases k <;> simp only [Tok.move] <;> (try split) <;> simp [Tok.root?]
theorem Inv.home (h:Inv w0 S0 n s a w S τ) {r x:Nat} (hx:Nat.ble zJ x=false) (hl:∀ v,s x≠.lin v) (hg:s x≠.gone) :
    Inv w0 S0 n (XM (Us r x) s) a w S (fun k=>if r=x then τ k else if k.root?=some x then τ (k.move x r) else τ k):=by
 have key:∀ k k',Us r x k=some k'→k'.root?=some x∨k'.root?=k.root?:=by
  intro k k' e
  unfold Us at e
  split at e
  · simp at e;subst e;exact .inr rfl
  · split at e
    · cases e
    · simp at e;subst e;exact zgr
 refine h.map (zgG r x) ?_ ?_ ?_
 · intro q v t k k' hq ht hk e
   have:q≠x:=by rintro rfl;exact hl _ hq
   rcases key k k' e with h1 | h1
   · rw [h1];simp;exact fun e=>this e.symm
   · rw [h1];exact h.lin q v t k hq ht hk
 · intro q t k k' hq hk e
   have:q≠x:=by rintro rfl;exact hg hq
   rcases key k k' e with h1 | h1
   · rw [h1];simp;exact fun e=>this e.symm
   · rw [h1];exact h.gone q t k hq hk
 · intro k k' e hp
   unfold Us at e
   split at e
   · simpa using e
   · split at e
     · cases e
     · simp only [Option.some.injEq] at e
       have key2:∀ r',(Tok.at r' []).pinned=true→r'≠x:=by
        rintro r' h1 rfl
        simp [Tok.pinned,hx] at h1
       cases k with
       | «at» r' p=>
         simp only [Tok.move] at e
         split at e
         · subst e;exact absurd rfl (key2 x hp)
         · exact e
       | bx r'=>
         simp only [Tok.move] at e
         split at e
         · subst e;exact absurd rfl (key2 x hp)
         · exact e
       | nl=>exact e
       | sh=>exact e
def KD (x:Nat) (l:List (List Nat×Tok)):Tok→Option Tok
 | .at r p=>match l.find? (fun y=>y.2 == .at r p) with
   | some y=>some (.at x y.1)
   | none=>if r=x then none else some (.at r p)
 | .bx r=>if r=x then none else some (.bx r)
 | k=>some k
def zkA (x:Nat) (l:List (List Nat×Tok)) (τ:Tok→Blk):Tok→Blk
 | .at r p=>if r=x then (match l.find? (fun y=>y.1 == p) with
   | some y=>τ y.2
   | none=>τ (.at r p)) else τ (.at r p)
 | k=>τ k
theorem Qg:∀ {l:List (List Nat×Tok)},(l.map (·.1)).Nodup→∀ y∈l,l.find? (fun z=>z.1 == y.1)=some y
 | [],_,y,hy=>by cases hy
 | z :: l,hn,y,hy=>by
   simp only [List.map_cons,List.nodup_cons] at hn
   simp only [List.find?_cons]
   rcases List.mem_cons.1 hy with rfl | hy
   · simp
   · have:z.1≠y.1:=fun e=>hn.1 (List.mem_map.2 ⟨y,hy,e.symm⟩)
     have hz:(z.1 == y.1)=false:=by simpa using this
     rw [hz]
     exact Qg hn.2 y hy
theorem zc3 {a b l:List Nat} (h1:a <+: l) (h2:b <+: l) (h:a.length=b.length):a=b:=by
 rw [List.prefix_iff_eq_take] at h1 h2
 rw [h1,h2,h]
mutual
theorem KG:∀ (v:V) (p:List Nat) (m:Nat) (l:List (List Nat×Tok)),V.own p m v=some l→(∀ x∈l,p <+: x.1)∧(l.map (·.1)).Nodup
 | .dead,p,m,l,h=>by simp [V.own] at h
 | .gone,p,m,l,h=>by simp [V.own] at h
 | .fn ..,p,m,l,h=>by simp [V.own] at h
 | .ref ..,p,m,l,h=>by simp [V.own] at h
 | .int ..,p,m,l,h=>by simp [V.own] at h;subst h;simp
 | .bool ..,p,m,l,h=>by simp [V.own] at h;subst h;simp
 | .lin v,p,m,l,h=>KG v p m l (by simpa [V.own] using h)
 | .agg vs,p,m,l,h=>by
   have:=W3 vs p m 0 l (by simpa [V.own] using h)
   exact ⟨fun x hx=>by obtain ⟨j,_,hj⟩:=this.1 x hx;exact (List.prefix_append _ _).trans hj,this.2⟩
 | .tup vs,p,m,l,h=>by
   have:=W3 vs p m 0 l (by simpa [V.own] using h)
   exact ⟨fun x hx=>by obtain ⟨j,_,hj⟩:=this.1 x hx;exact (List.prefix_append _ _).trans hj,this.2⟩
 | .sl t g lo xs,p,0,l,h=>by simp [V.own] at h;subst h;simp
 | .sl t g lo xs,p,m + 1,l,h=>by
   cases t with
   | sh=>simp [V.own] at h
   | bx r=>simp [V.own] at h
   | nl=>simp [V.own] at h;subst h;simp
   | «at» r q=>
     simp only [V.own] at h
     split at h
     · by_cases hf:g.flat=true
       · simp only [hf,if_true,Option.some.injEq] at h
         subst h
         simp
       · simp only [hf,Bool.false_eq_true,if_false,Option.map_eq_some_iff] at h
         obtain ⟨l',h',rfl⟩:=h
         have:=W3 xs p m 0 l' h'
         refine ⟨?_,?_⟩
         · intro x hx
           rcases List.mem_cons.1 hx with rfl | hx
           · exact List.prefix_refl _
           · obtain ⟨j,_,hj⟩:=this.1 x hx;exact (List.prefix_append _ _).trans hj
         · simp only [List.map_cons,List.nodup_cons]
           refine ⟨?_,this.2⟩
           intro hm
           obtain ⟨x,hx,e⟩:=List.mem_map.1 hm
           obtain ⟨j,_,hj⟩:=this.1 x hx
           have:=hj.length_le
           rw [e] at this
           simp at this
           omega
     · cases h
theorem W3:∀ (vs:List V) (p:List Nat) (m k:Nat) (l:List (List Nat×Tok)),V.owns p m k vs=some l→(∀ x∈l,∃ j,k≤j∧(p++[j]) <+: x.1)∧(l.map (·.1)).Nodup
 | [],p,m,k,l,h=>by simp [V.owns] at h;subst h;simp
 | v :: vs,p,m,k,l,h=>by
   simp only [V.owns] at h
   split at h
   · rename_i la lb h1 h2
     simp only [Option.some.injEq] at h
     subst h
     have ha:=KG v (p++[k]) m la h1
     have hb:=W3 vs p m (k + 1) lb h2
     refine ⟨?_,?_⟩
     · intro x hx
       rcases List.mem_append.1 hx with hx | hx
       · exact ⟨k,Nat.le_refl _,ha.1 x hx⟩
       · obtain ⟨j,hj,h3⟩:=hb.1 x hx;exact ⟨j,by omega,h3⟩
     · rw [List.map_append,List.nodup_append]
       refine ⟨ha.2,hb.2,?_⟩
       intro a ha' b hb' e
       obtain ⟨x,hx,rfl⟩:=List.mem_map.1 ha'
       obtain ⟨y,hy,rfl⟩:=List.mem_map.1 hb'
       obtain ⟨j,hj,h3⟩:=hb.1 y hy
       have h4:=ha.1 x hx
       rw [e] at h4
       have:=zc3 h4 h3 (by simp)
       simp at this
       omega
   · cases h
end
theorem zg8 {x:Nat} {l:List (List Nat×Tok)} (hn:(l.map (·.1)).Nodup):Lz (KD x l) τ (zkA x l τ):=by
 refine ⟨?_,?_,rfl⟩
 · intro r p k e
   simp only [KD] at e
   split at e
   · rename_i y hy
     simp only [Option.some.injEq] at e;subst e
     have hm:=List.mem_of_find?_eq_some hy
     have h2:y.2 = .at r p:=by simpa using List.find?_some hy
     refine ⟨?_,_,_,rfl⟩
     simp only [zkA,if_true]
     rw [Qg hn y hm]
     simp only [h2]
   · split at e
     · cases e
     · rename_i hr
       simp only [Option.some.injEq] at e;subst e
       refine ⟨?_,_,_,rfl⟩
       simp only [zkA,hr,if_false]
 · intro r k e
   simp only [KD] at e
   split at e
   · cases e
   · simp only [Option.some.injEq] at e;subst e
     exact ⟨rfl,_,rfl⟩
theorem Inv.can (h:Inv w0 S0 n s a w S τ) {x:Nat} {l:List (List Nat×Tok)} (hl0:(l.map (·.1)).Nodup) (hx:Nat.ble zJ x=false) (hl:∀ v,s x≠.lin v) (hg:s x≠.gone) :
    Inv w0 S0 n (XM (KD x l) s) a w S (zkA x l τ):=by
 have key:∀ k k',KD x l k=some k'→k'.root?=some x∨k'=k:=by
  intro k k' e
  cases k with
  | «at» r p=>
    simp only [KD] at e
    split at e
    · simp only [Option.some.injEq] at e;subst e;exact .inl rfl
    · split at e
      · cases e
      · simp only [Option.some.injEq] at e;exact .inr e.symm
  | bx r=>
    simp only [KD] at e
    split at e
    · cases e
    · simp only [Option.some.injEq] at e;exact .inr e.symm
  | nl=>simp only [KD,Option.some.injEq] at e;exact .inr e.symm
  | sh=>simp only [KD,Option.some.injEq] at e;exact .inr e.symm
 refine h.map (zg8 hl0) ?_ ?_ ?_
 · intro q v t k k' hq ht hk e
   have:q≠x:=by rintro rfl;exact hl _ hq
   rcases key k k' e with h1 | rfl
   · rw [h1];simp;exact fun e=>this e.symm
   · exact h.lin q v t _ hq ht hk
 · intro q t k k' hq hk e
   have:q≠x:=by rintro rfl;exact hg hq
   rcases key k k' e with h1 | rfl
   · rw [h1];simp;exact fun e=>this e.symm
   · exact h.gone q t _ hq hk
 · intro k k' e hp
   rcases key k k' e with h1 | rfl
   · obtain ⟨r,e1,e2⟩:=UU hp
     rw [h1] at e1
     simp only [Option.some.injEq] at e1
     subst e1
     rw [Nat.ble_eq_true_of_le e2] at hx;cases hx
   · rfl
end
inductive E where
 | home (r x:Nat)
 | frz (x:Nat)
 | clr (pk:List Nat)
 | drp (x:Nat)
 | can (x:Nat)
 | ren (x q:Nat) (p:List Nat)
 deriving Repr,Inhabited
def Jt (s:Nat→V):E→Option (Nat→V)
 | .home r x=>if Nat.ble zJ x then none else match s x with
   | .lin _ | .gone=>none
   | _=>some (XM (Us r x) s)
 | .frz x=>some fun t=>V.frz (s x).toks (s t)
 | .clr pk=>some (clear pk s)
 | .drp x=>some (upd s x .dead)
 | .can x=>if Nat.ble zJ x then none else match s x with
   | .lin _ | .gone=>none
   | _=>(V.own [] 9 (s x)).map fun l=>XM (KD x l) s
 | .ren x q p=>if Nat.ble zJ x then none else match s x with
   | .lin _ | .gone=>none
   | _=>some (XM (KD x [([],.at q p)]) s)
def Uq:List E→(Nat→V)→Option (Nat→V)
 | [],s=>some s
 | e :: es,s=>match Jt s e with
   | some s'=>Uq es s'
   | none=>none
theorem zid {w0:Ori} {S0:Nat→Prop} {n:Nat} {s s':Nat→V} {a:Act} {w:World} {S:Nat→Prop} {τ:Tok→Blk} {e:E} (h:Inv w0 S0 n s a w S τ) (he:Jt s e=some s'):∃ S' τ',Inv w0 S0 n s' a w S' τ':=by
 cases e with
 | home r x=>
   simp only [Jt] at he
   split at he
   · cases he
   · rename_i hx
     split at he
     · cases he
     · cases he
     · rename_i h1 h2
       simp only [Option.some.injEq] at he;subst he
       exact ⟨_,_,h.home (by cases hb:Nat.ble zJ x with | true=>exact absurd hb hx | false=>rfl) h1 h2⟩
 | frz x=>
   simp only [Jt,Option.some.injEq] at he;subst he
   exact ⟨_,_,h.frz fun k hk=>⟨x,hk⟩⟩
 | clr pk=>
   simp only [Jt,Option.some.injEq] at he;subst he
   exact ⟨_,_,h.clear pk⟩
 | drp x=>
   simp only [Jt,Option.some.injEq] at he;subst he
   exact ⟨_,_,h.drop x⟩
 | can x=>
   simp only [Jt] at he
   split at he
   · cases he
   · rename_i hx
     split at he
     · cases he
     · cases he
     · rename_i h1 h2
       simp only [Option.map_eq_some_iff] at he
       obtain ⟨l,hl,rfl⟩:=he
       exact ⟨_,_,h.can (KG _ _ _ _ hl).2 (by cases hb:Nat.ble zJ x with | true=>exact absurd hb hx | false=>rfl) h1 h2⟩
 | ren x q p=>
   simp only [Jt] at he
   split at he
   · cases he
   · rename_i hx
     split at he
     · cases he
     · cases he
     · rename_i h1 h2
       simp only [Option.some.injEq] at he;subst he
       exact ⟨_,_,h.can (by simp) (by cases hb:Nat.ble zJ x with | true=>exact absurd hb hx | false=>rfl) h1 h2⟩
theorem KY {w0:Ori} {S0:Nat→Prop} {n:Nat} {a:Act} {w:World}:∀ (es:List E) {s s':Nat→V} {S:Nat→Prop} {τ:Tok→Blk},Inv w0 S0 n s a w S τ→Uq es s=some s'→∃ S' τ',Inv w0 S0 n s' a w S' τ'
 | [],s,s',S,τ,h,he=>by simp only [Uq,Option.some.injEq] at he;subst he;exact ⟨_,_,h⟩
 | e :: es,s,s',S,τ,h,he=>by
   simp only [Uq] at he
   split at he
   · rename_i s1 h1
     obtain ⟨S1,τ1,hI⟩:=zid h h1
     exact KY es hI he
   · cases he
end Go.Zq
namespace Go.Zq
structure An where
 id:Nat
 pre:List E:=[]
 lin:List Nat:=[]
 sp:List Nat:=[]
 ep:List E:=[]
 deriving Repr
inductive AC where
 | skip
 | reg (pre:List E) (is:List I) (ep:List E)
 | seq (a b:AC)
 | cond (c:O) (a b:AC)
 | block (id:Nat) (a:AC)
 | loop (a:AC)
 | exit (id:Nat)
 | ret
 deriving Repr,Inhabited
def cC (P:Program) (n:Nat) (an:List An):Code→Option AC
 | .skip=>some .skip
 | .region id ops draw=>
   let x:=(an.find? fun x=>x.id == id).getD { id:=id }
   match cIs P n ops x.lin x.sp (List.range ops.size) with
   | some is=>if !draw || zdK ops is then some (.reg x.pre is x.ep) else some (.reg [] [⟨none,none,false,.v (.un .not (.k .dead))⟩] [])
   | none=>some (.reg [] [⟨none,none,false,.v (.un .not (.k .dead))⟩] [])
 | .seq a b=>match cC P n an a,cC P n an b with
   | some a,some b=>some (.seq a b)
   | _,_=>none
 | .cond c a b=>match cO .s c,cC P n an a,cC P n an b with
   | some c,some a,some b=>some (.cond c a b)
   | _,_,_=>none
 | .block id a=>(cC P n an a).map (.block id)
 | .loop a=>(cC P n an a).map .loop
 | .exit id=>some (.exit id)
 | .ret=>some .ret
 | _=>some (.cond (.k .dead) .skip .skip)
inductive Ex where
 | nrm
 | exit (id:Nat)
 | ret
 deriving DecidableEq,Repr
def Ex.up:Ex→Exit
 | .nrm=>.normal
 | .exit id=>.exit id
 | .ret=>.ret
abbrev Zs:=Ex→(Nat→V)→Prop
def Zs.thn (K:(Nat→V)→Prop) (Q:Zs):Zs:=fun e s=>match e with
 | .nrm=>K s
 | e=>Q e s
def Zs.blk (id:Nat) (Q:Zs):Zs:=fun e s=>match e with
 | .exit i=>if i=id then Q .nrm s else Q (.exit i) s
 | e=>Q e s
def rounds (f:Zs→(Nat→V)→Prop) (Q:Zs):Nat→(Nat→V)→Prop
 | 0,_=>False
 | k + 1,s=>f (Zs.thn (rounds f Q k) Q) s
def clr (pk:List Nat) (s:Nat→V):Nat→V:=match pk with
 | []=>s
 | pk=>clear pk s
def AC.wp (D:Den) (σ:Sig):AC→Zs→(Nat→V)→Prop
 | .skip,Q,s=>Q .nrm s
 | .reg pre is ep,Q,s=>match Uq pre s with
   | some s0=>(match YX D σ is s0 with
     | some s1=>(match Uq ep s1 with
       | some s2=>Q .nrm s2
       | none=>False)
     | none=>False)
   | none=>False
 | .seq a b,Q,s=>a.wp D σ (Zs.thn (b.wp D σ Q) Q) s
 | .cond c a b,Q,s=>match c.ev s with
   | .bool t=>if t then a.wp D σ Q s else b.wp D σ Q s
   | _=>False
 | .block id a,Q,s=>a.wp D σ (Zs.blk id Q) s
 | .loop a,Q,s=>∃ k,rounds (a.wp D σ) Q k s
 | .exit id,Q,s=>Q (.exit id) s
 | .ret,Q,s=>Q .ret s
section
variable {P:Program} {w0:Ori} {S0:Nat→Prop} {n:Nat} {s s':Nat→V} {a:Act} {w:World} {S:Nat→Prop} {τ:Tok→Blk}
theorem Inv.clr (h:Inv w0 S0 n s a w S τ) (pk:List Nat):Inv w0 S0 n (clr pk s) a w S τ:=by
 cases pk with
 | nil=>exact h
 | cons p pk=>exact h.clear _
def zwr (w0:Ori) (S0:Nat→Prop) (n:Nat) (Q:Zs) (Q':Exit→Act→World→Prop):Prop:=∀ e s a w S τ,Q e s→Inv w0 S0 n s a w S τ→Q' e.up a w
theorem zbH {D:Den} {σ:Sig} {Q:Zs} (h:AC.wp D σ (.reg [] [⟨none,none,false,.v (.un .not (.k .dead))⟩] []) Q s):False:=h
theorem zcv {D:Den} {σ:Sig} (hF:zr P D σ) (hm:P.follows .mixedOrders=true) {an:List An}:∀ (c:Code) (A:AC) (Q:Zs) (Q':Exit→Act→World→Prop) (s:Nat→V) (a:Act) (w:World) (S:Nat→Prop) (τ:Tok→Blk),
    cC P n an c=some A→Inv w0 S0 n s a w S τ→A.wp D σ Q s→zwr w0 S0 n Q Q'→c.wp P Q' a w:=by
 intro c
 induction c with
 | skip=>
   intro A Q Q' s a w S τ hc hI h hQ
   simp only [cC,Option.some.injEq] at hc;subst hc
   exact wp_skip (hQ _ _ _ _ _ _ h hI)
 | region id ops draw=>
   intro A Q Q' s a w S τ hc hI h hQ
   simp only [cC] at hc
   split at hc
   · rename_i is his
     split at hc
     · rename_i hd
       simp only [Option.some.injEq] at hc;subst hc
       simp only [AC.wp] at h
       split at h
       case h_2=>exact h.elim
       rename_i s0 hs0
       obtain ⟨S0',τ0,hI⟩:=KY _ hI hs0
       split at h
       · rename_i s1 hs1
         split at h
         · rename_i s2 hs2
           have hgo:zao w0 S0 n s1 (Q' .normal):=by
            intro a' w' S' τ' hI'
            obtain ⟨S2,τ2,hI2⟩:=KY _ hI' hs2
            exact hQ .nrm _ _ _ _ _ h hI2
           cases draw with
           | false=>
             exact wp_region (NO hF _ _ _ _ _ _ _ his hI hs1 hgo)
           | true=>
             simp only [Bool.not_true,Bool.false_or] at hd
             refine wp_region_any hm ?_
             have hI3:Inv w0 S0 n s0 a { w with drawn:=w.drawn + 1 } S0' τ0:=
              hI.same_heap rfl (UH hI.below _)
             have hxs:∀ (xs:List I),cIs P n ops ((an.find? fun x=>x.id == id).getD { id:=id }).lin ((an.find? fun x=>x.id == id).getD { id:=id }).sp (List.range ops.size)=some xs→(List.range ops.size).map (fun i=>xs.getD i default)=xs:=by
              intro xs hx
              have hlen:∀ (is:List Nat) (xs:List I) lin sp,cIs P n ops lin sp is=some xs→xs.length=is.length:=by
               intro is
               induction is with
               | nil=>intro xs lin sp h;simp [cIs] at h;subst h;rfl
               | cons i is ih=>
                 intro xs lin sp h
                 simp only [cIs] at h
                 split at h
                 · rename_i x xs' _ h2
                   simp only [Option.some.injEq] at h;subst h
                   simp [ih _ _ _ h2]
                 · cases h
              have:=hlen _ _ _ _ hx
              simp only [List.length_range] at this
              apply List.ext_getElem
              · simp [this]
              · intro k h1 h2
                simp [List.getD_eq_getElem?_getD,h2]
             refine zgv hF his hd ops.size _ _ _ _ S0' τ0 (by simp) ?_ ?_ hI3 ?_ hgo
             · intro i o e ho he hb hl
               simp only [Array.getD_eq_getD_getElem?] at hl
               rw [Array.getElem?_replicate] at hl
               split at hl <;> simp at hl
             · exact Nat.le_trans (List.length_filter_le _ _) (by simp)
             · have:XK ops.size (Array.replicate ops.size false)=List.range ops.size:=by
                unfold XK
                refine List.filter_eq_self.2 ?_
                intro i hi
                have hi:i < ops.size:=by simpa using hi
                simp [Array.getD_eq_getD_getElem?,Array.getElem?_replicate,hi]
               rw [this,hxs _ his]
               exact hs1
         · exact h.elim
       · exact h.elim
     · simp only [Option.some.injEq] at hc;subst hc
       exact (zbH h).elim
   · simp only [Option.some.injEq] at hc;subst hc
     exact (zbH h).elim
 | seq x y ihx ihy=>
   intro A Q Q' s a w S τ hc hI h hQ
   simp only [cC] at hc
   split at hc
   · rename_i A1 A2 h1 h2
     simp only [Option.some.injEq] at hc;subst hc
     refine wp_seq (ihx A1 _ _ s a w S τ h1 hI h ?_)
     intro e s' a' w' S' τ' hq hI'
     cases e with
     | nrm=>exact ihy A2 Q Q' s' a' w' S' τ' h2 hI' hq hQ
     | exit id=>exact hQ (.exit id) _ _ _ _ _ hq hI'
     | ret=>exact hQ .ret _ _ _ _ _ hq hI'
   · cases hc
 | cond c x y ihx ihy=>
   intro A Q Q' s a w S τ hc hI h hQ
   simp only [cC] at hc
   split at hc
   · rename_i c' A1 A2 h0 h1 h2
     simp only [Option.some.injEq] at hc;subst hc
     simp only [AC.wp] at h
     split at h
     · rename_i t ht
       have hr:=MS h0 hI.told
       rw [ht] at hr
       simp only [zu] at hr
       refine wp_cond hr ?_
       cases t with
       | true=>exact ihx A1 Q Q' s a w S τ h1 hI h hQ
       | false=>exact ihy A2 Q Q' s a w S τ h2 hI h hQ
     · exact h.elim
   · cases hc
 | block id x ih=>
   intro A Q Q' s a w S τ hc hI h hQ
   simp only [cC,Option.map_eq_some_iff] at hc
   obtain ⟨A1,h1,rfl⟩:=hc
   refine wp_block (ih A1 _ _ s a w S τ h1 hI h ?_)
   intro e s' a' w' S' τ' hq hI'
   cases e with
   | nrm=>exact hQ .nrm _ _ _ _ _ hq hI'
   | ret=>exact hQ .ret _ _ _ _ _ hq hI'
   | exit i=>
     simp only [Zs.blk,Ex.up,Exit.inBlock] at hq ⊢
     split
     · rename_i e;rw [if_pos e] at hq;exact hQ .nrm _ _ _ _ _ hq hI'
     · rename_i e;rw [if_neg e] at hq;exact hQ (.exit i) _ _ _ _ _ hq hI'
 | loop x ih=>
   intro A Q Q' s a w S τ hc hI h hQ
   simp only [cC,Option.map_eq_some_iff] at hc
   obtain ⟨A1,h1,rfl⟩:=hc
   obtain ⟨k,hk⟩:=h
   refine wp_loop_rounds k ?_
   have key:∀ k s a w S τ,Inv w0 S0 n s a w S τ→rounds (A1.wp D σ) Q k s→Code.rounds P x Q' k a w:=by
    intro k
    induction k with
    | zero=>intro s a w S τ _ h;exact h.elim
    | succ k ihk=>
      intro s a w S τ hI h
      rw [rounds_succ]
      refine ih A1 _ _ s a w S τ h1 hI h ?_
      intro e s' a' w' S' τ' hq hI'
      cases e with
      | nrm=>exact ihk s' a' w' S' τ' hI' hq
      | exit id=>exact hQ (.exit id) _ _ _ _ _ hq hI'
      | ret=>exact hQ .ret _ _ _ _ _ hq hI'
   exact key k s a w S τ hI hk
 | exit id=>
   intro A Q Q' s a w S τ hc hI h hQ
   simp only [cC,Option.some.injEq] at hc;subst hc
   exact wp_exit (hQ (.exit id) _ _ _ _ _ h hI)
 | ret=>
   intro A Q Q' s a w S τ hc hI h hQ
   simp only [cC,Option.some.injEq] at hc;subst hc
   exact wp_ret (hQ .ret _ _ _ _ _ h hI)
 | _=>
   intro A Q Q' s a w S τ hc hI h
   simp only [cC,Option.some.injEq] at hc;subst hc
   exact h.elim
end
end Go.Zq
namespace Go.Zq
def Wy (P:Program) (s:Nat→V):ResultVar→Option V
 | .tmp t=>some (s t)
 | .cell a t=>match shT P 6 t,s a with
   | some h,.ref _ _ _ c=>if c.shape.beq h && (Lv P t == some h.isAg && vg P t == some h.size) then some c else none
   | _,_=>none
def MF (P:Program) (s:Nat→V):List ResultVar→Option V
 | []=>some (.tup [])
 | [x]=>Wy P s x
 | [x,y]=>match Wy P s x,Wy P s y with
   | some u,some v=>some (.tup [u,v])
   | _,_=>none
 | [x,y,z]=>match Wy P s x,Wy P s y,Wy P s z with
   | some u,some v,some t=>some (.tup [u,v,t])
   | _,_,_=>none
 | _=>none
def fin (m:Nat) (al:Bool) (v:V):Option V:=
 match V.own [] m v with
 | some l=>if decide (l.map (·.2)).Nodup && (l.all fun x=>!(V.low m v).contains x.2) && (al || v.mine) then some (V.ret m v) else none
 | none=>none
def init (args:List V):Nat→V:=fun t=>args.getD t .dead
section
variable {P:Program} {w0:Ori} {S0:Nat→Prop} {n:Nat} {s s':Nat→V} {a:Act} {w:World} {S:Nat→Prop} {τ:Tok→Blk}
def zj4 (P:Program) (w:World) (tmps:Array Value) (rv:ResultVar) (c:Value):Prop:=
 match rv with
 | .tmp t=>c=tmps.getD t undef
 | .cell a t=>∃ ad,tmps.getD a undef = .pointer (some ad)∧(loadVar t ad).run P w = .ok c w
theorem WF {rv:ResultVar} {v:V} (h:Wy P s rv=some v) (hI:Inv w0 S0 n s a w S τ):∃ c,zj4 P w a.tmps rv c∧zu w S τ v c∧∀ k∈v.toks,∃ t,k∈(s t).toks:=by
 cases rv with
 | tmp t=>
   simp only [Wy,Option.some.injEq] at h;subst h
   exact ⟨_,rfl,hI.told t,fun k hk=>⟨t,hk⟩⟩
 | cell x t=>
   simp only [Wy] at h
   split at h
   · rename_i g tk i q c hg hs
     split at h
     · rename_i hcond
       simp only [Bool.and_eq_true,beq_iff_eq] at hcond
       simp only [Option.some.injEq] at h;subst h
       have hr:=hI.told x
       rw [hs] at hr
       have hsh:=Sh.beq_eq _ _ hcond.1
       obtain ⟨b,off,arr,ty,fz,e,hw,hp,hle,h0,hrel⟩:=Za hr
       obtain ⟨r,h1,h2⟩:=Li (P:=P) (t:=t) hw hle hrel (by rw [hsh];exact hcond.2.1) (by rw [hsh];exact hcond.2.2)
       refine ⟨r,⟨_,e,h1⟩,h2,?_⟩
       intro k hk
       refine ⟨x,?_⟩
       rw [hs]
       cases tk with
       | sh=>rw [h0 rfl] at hk;cases hk
       | nl=>simpa [V.toks] using hk
       | _=>simp [V.toks,hk]
     · cases h
   · cases h
theorem Ld:∀ (fn:Func) (rs:List ResultVar) (v:V),fn.results.toList=rs→MF P s rs=some v→Inv w0 S0 n s a w S τ →
    ∃ c,(results fn a.tmps).run P w = .ok c w∧zu w S τ v c∧∀ k∈v.toks,∃ t,k∈(s t).toks:=by
 intro fn rs v hrs h hI
 have hres:fn.results=rs.toArray:=by rw [← hrs]
 unfold MF at h
 split at h
 · simp only [Option.some.injEq] at h;subst h
   exact ⟨.tuple #[],by simp [results,hres],⟨#[],rfl,by simp [z6]⟩,by simp [V.toks,V.tokss]⟩
 · rename_i x
   obtain ⟨c,h1,h2,h3⟩:=WF h hI
   refine ⟨c,?_,h2,h3⟩
   cases x with
   | tmp t=>simp only [zj4] at h1;subst h1;simp [results,hres]
   | cell y t=>obtain ⟨ad,e,h1⟩:=h1;simp [results,hres] at e ⊢;simp [e,h1,asAddr]
 · rename_i x y
   split at h
   · rename_i u u' hu hu'
     simp only [Option.some.injEq] at h;subst h
     obtain ⟨c,h1,h2,h3⟩:=WF hu hI
     obtain ⟨c',h1',h2',h3'⟩:=WF hu' hI
     refine ⟨.tuple #[c,c'],?_,⟨_,rfl,by simp only [z6];exact ⟨c,[c'],rfl,h2,c',[],rfl,h2',rfl⟩⟩,?_⟩
     · cases x <;> cases y <;> simp only [zj4] at h1 h1' <;> (try obtain ⟨ad,e,h1⟩:=h1) <;> (try obtain ⟨ad',e',h1'⟩:=h1') <;> (try subst h1) <;> (try subst h1') <;> simp_all [results,asAddr]
     · intro k hk
       simp only [V.toks,V.tokss,List.append_nil,List.mem_append] at hk
       exact hk.elim (h3 k) (h3' k)
   · cases h
 · rename_i x y z
   split at h
   · rename_i u u' u'' hu hu' hu''
     simp only [Option.some.injEq] at h;subst h
     obtain ⟨c,h1,h2,h3⟩:=WF hu hI
     obtain ⟨c',h1',h2',h3'⟩:=WF hu' hI
     obtain ⟨c'',h1'',h2'',h3''⟩:=WF hu'' hI
     refine ⟨.tuple #[c,c',c''],?_,⟨_,rfl,by simp only [z6];exact ⟨c,[c',c''],rfl,h2,c',[c''],rfl,h2',c'',[],rfl,h2'',rfl⟩⟩,?_⟩
     · cases x <;> cases y <;> cases z <;> simp only [zj4] at h1 h1' h1'' <;> (try obtain ⟨ad,e,h1⟩:=h1) <;> (try obtain ⟨ad',e',h1'⟩:=h1') <;> (try obtain ⟨ad'',e'',h1''⟩:=h1'') <;> (try subst h1) <;> (try subst h1') <;> (try subst h1'') <;> simp_all [results,asAddr]
     · intro k hk
       simp only [V.toks,V.tokss,List.append_nil,List.mem_append] at hk
       exact hk.elim (h3 k) fun hk=>hk.elim (h3' k) (h3'' k)
   · cases h
 · cases h
theorem JJ:∀ (us:List V) (cs:List Value) (t:Nat),z6 w S τ us cs→zu w S τ (us.getD t .dead) (cs.getD t undef)
 | [],cs,t,h=>by simp [zu]
 | u :: us,cs,t,h=>by
   simp only [z6] at h
   obtain ⟨c,cs',rfl,h1,h2⟩:=h
   cases t with
   | zero=>simpa using h1
   | succ t=>simpa using JJ us cs' t h2
theorem WK:∀ (us:List V) (cs:List Value),z6 w S τ us cs→cs.length=us.length
 | [],cs,h=>by simp only [z6] at h;subst h;rfl
 | u :: us,cs,h=>by
   simp only [z6] at h
   obtain ⟨c,cs',rfl,_,h2⟩:=h
   simp [WK us cs' h2]
theorem YJ:∀ (us:List V) (t:Nat),V.tokss us=[]→(us.getD t .dead).toks=[]
 | [],t,_=>by simp [V.toks]
 | u :: us,t,h=>by
   simp only [V.tokss,List.append_eq_nil_iff] at h
   cases t with
   | zero=>simpa using h.1
   | succ t=>simpa using YJ us t h.2
mutual
theorem MO:∀ (v:V) (p:List Nat) (m:Nat) (l:List (List Nat×Tok)),V.own p m v=some l→∀ k∈V.low m v,k∈v.toks
 | .sl t h lo xs,p,0,l,ho,k,hk=>by simpa [V.low] using hk
 | .sl t h lo xs,p,m + 1,l,ho,k,hk=>by
   cases t with
   | sh=>simp [V.own] at ho
   | bx r=>simp [V.own] at ho
   | nl=>simp [V.low] at hk
   | «at» r q=>
     simp only [V.low] at hk
     split at hk
     · cases hk
     · rename_i hf
       simp only [V.own,hf] at ho
       split at ho
       · simp only [Bool.false_eq_true,if_false,Option.map_eq_some_iff] at ho
         obtain ⟨l',h',_⟩:=ho
         have:=U7 xs p m 0 l' h' k hk
         simp [V.toks,hf,this]
       · cases ho
 | .agg vs,p,m,l,ho,k,hk=>by simpa [V.toks] using U7 vs p m 0 l (by simpa [V.own] using ho) k (by simpa [V.low] using hk)
 | .tup vs,p,m,l,ho,k,hk=>by simpa [V.toks] using U7 vs p m 0 l (by simpa [V.own] using ho) k (by simpa [V.low] using hk)
 | .lin v,p,m,l,ho,k,hk=>by simpa [V.toks] using MO v p m l (by simpa [V.own] using ho) k (by simpa [V.low] using hk)
 | .dead,p,m,l,ho,k,hk | .gone,p,m,l,ho,k,hk | .int ..,p,m,l,ho,k,hk | .bool ..,p,m,l,ho,k,hk | .ref ..,p,m,l,ho,k,hk | .fn ..,p,m,l,ho,k,hk=>by simpa [V.low] using hk
theorem U7:∀ (vs:List V) (p:List Nat) (m j:Nat) (l:List (List Nat×Tok)),V.owns p m j vs=some l→∀ k∈V.lows m vs,k∈V.tokss vs
 | [],p,m,j,l,ho,k,hk=>by simp [V.lows] at hk
 | v :: vs,p,m,j,l,ho,k,hk=>by
   simp only [V.owns] at ho
   split at ho
   · rename_i la lb h1 h2
     simp only [V.lows,V.tokss,List.mem_append] at hk ⊢
     exact hk.imp (MO v _ m la h1 k) (U7 vs p m (j + 1) lb h2 k)
   · cases ho
end
def ori (w:World) (τ:Tok→Blk):Ori:=⟨w,fun b=>w.heap.size≤b,τ,fun _ h=>h⟩
theorem zh8 {args:List V} {vals:Array Value} {nt:Nat} (hS:∀ b,S b→b < w.heap.size) (hr:z6 w S τ args vals.toList) (h0:V.tokss args=[]) (hn:args.length≤nt) (hnt:nt≤zJ) :
    Inv (ori w τ) S nt (init args) { tmps:=vals++Array.replicate (nt - vals.size) undef,defers:=[] } w S τ where
 told t:=by
  have hl:=WK _ _ hr
  simp only [Array.length_toList] at hl
  have:=JJ args vals.toList t hr
  by_cases ht:t < vals.size
  · simp only [init,Act.eval,Array.getD_eq_getD_getElem?,Array.getElem?_append_left ht]
    simpa [List.getD_eq_getElem?_getD] using this
  · have:init args t = .dead:=by
     simp only [init]
     rw [List.getD_eq_getElem?_getD,List.getElem?_eq_none (by omega)];rfl
    rw [this];simp [zu]
 size:=by
  have hl:=WK _ _ hr
  simp at hl ⊢;omega
 defers:=rfl
 own t k hk:=by rw [init,YJ args t h0] at hk;cases hk
 inj t t' k k' hk:=by rw [init,YJ args t h0] at hk;cases hk
 sbd:=hS
 sfr b hb:=.inl hb
 s0 b hb:=hb
 below:=Bel.refl _ _
 lin r v t k _ _ hk:=by rw [init,YJ args t h0] at hk;cases hk
 gone r t k _ hk:=by rw [init,YJ args t h0] at hk;cases hk
 small:=hnt
 pin t k hk:=by rw [init,YJ args t h0] at hk;cases hk
theorem zkM {m:Nat} {al:Bool} {v r:V} {c:Value} (hI:Inv w0 S0 n s a w S τ) (hf:fin m al v=some r) (hr:zu w S τ v c) (hk:∀ k∈v.toks,∃ t,k∈(s t).toks) (d:Nat) :
    ∃ τ',Bel w0.N w0.w w ∧
     (∀ k∈(V.tag d [] m r).toks,k.root?=some d∧w0.N (τ' k).b∧(τ' k).b < w.heap.size) ∧
     (∀ k∈(V.tag d [] m r).toks,∀ k'∈(V.tag d [] m r).toks,(τ' k).b=(τ' k').b→k=k') ∧
     zu w (fun b=>(al=true∧S0 b∨w0.N b)∧b < w.heap.size∧∀ k∈(V.tag d [] m r).toks,(τ' k).b≠b) τ' (V.tag d [] m r) c:=by
 unfold fin at hf
 split at hf
 · rename_i l hl
   split at hf
   · rename_i hc
     simp only [Option.some.injEq] at hf;subst hf
     simp only [Bool.and_eq_true,decide_eq_true_eq,List.all_eq_true,Bool.not_eq_true',Bool.or_eq_true] at hc
     obtain ⟨⟨hnd,hlow⟩,hal⟩:=hc
     let τ':Tok→Blk:=fun k=>match k with
      | .at d' q=>if d'=d then τ (Lf v q) else τ k
      | k=>τ k
     have hT:My d (Lf v) τ τ':=by intro q;simp [τ']
     have htk:=L3 d v [] m l hl
     have how:=Mw (T:=Lf v) v [] m l hl (fun q=>by simp)
     have hown:∀ x∈l,w0.N (τ' (.at d x.1)).b∧(τ' (.at d x.1)).b < w.heap.size∧¬ S (τ' (.at d x.1)).b:=by
      intro x hx
      have h1:=how x hx
      rw [hT x.1,h1.1]
      obtain ⟨t,ht⟩:=hk _ h1.2
      exact hI.own t _ ht
     refine ⟨τ',hI.below,?_,?_,?_⟩
     · intro k hk'
       rw [htk] at hk'
       obtain ⟨x,hx,rfl⟩:=List.mem_map.1 hk'
       exact ⟨rfl,(hown x hx).1,(hown x hx).2.1⟩
     · intro k hk' k2 hk2 e
       rw [htk] at hk' hk2
       obtain ⟨x,hx,rfl⟩:=List.mem_map.1 hk'
       obtain ⟨y,hy,rfl⟩:=List.mem_map.1 hk2
       have h1:=how x hx
       have h2:=how y hy
       rw [hT x.1,hT y.1,h1.1,h2.1] at e
       obtain ⟨t,ht⟩:=hk _ h1.2
       obtain ⟨t',ht'⟩:=hk _ h2.2
       have e2:=hI.inj t t' _ _ ht ht' e
       have:x=y:=by
        have hpw:=List.pairwise_map.1 hnd
        have:∀ (l:List (List Nat×Tok)),List.Pairwise (fun a b=>a.2≠b.2) l→x∈l→y∈l→x=y:=by
         intro l
         induction l with
         | nil=>intro _ h;cases h
         | cons z l ih=>
           intro hp hx hy
           rw [List.pairwise_cons] at hp
           rcases List.mem_cons.1 hx with h1 | h1 <;> rcases List.mem_cons.1 hy with h2 | h2
           · rw [h1,h2]
           · rw [h1] at e2;exact absurd e2 (hp.1 y h2)
           · rw [h2] at e2;exact absurd e2.symm (hp.1 x h1)
           · exact ih hp.2 h1 h2
        exact this l hpw hx hy
       rw [this]
     · -- what is shared
       have hlowS:∀ k∈V.low m v,(w0.N (τ k).b)∧(τ k).b < w.heap.size∧∀ k'∈(V.tag d [] m (V.ret m v)).toks,(τ' k').b≠(τ k).b:=by
        intro k hkl
        obtain ⟨t,ht⟩:=hk _ (MO v [] m l hl k hkl)
        have h1:=hI.own t k ht
        refine ⟨h1.1,h1.2.1,?_⟩
        intro k' hk' e
        rw [htk] at hk'
        obtain ⟨x,hx,rfl⟩:=List.mem_map.1 hk'
        have h2:=how x hx
        rw [hT x.1,h2.1] at e
        obtain ⟨t',ht'⟩:=hk _ h2.2
        have e2:=hI.inj t' t _ _ ht' ht e
        have:=hlow x hx
        rw [e2] at this
        simp [hkl] at this
       rcases hal with hal | hal
       · subst hal
         refine Kc hT ?_ v [] m c l hr hl (fun q=>by simp) ?_
         · intro b hb
           refine ⟨?_,hI.sbd b hb,?_⟩
           · rcases hI.sfr b hb with h | h
             · exact .inl ⟨rfl,h⟩
             · exact .inr h
           · intro k' hk' e
             rw [htk] at hk'
             obtain ⟨x,hx,rfl⟩:=List.mem_map.1 hk'
             rw [← e] at hb
             exact (hown x hx).2.2 hb
         · intro k hkl
           have:=hlowS k hkl
           exact ⟨.inr this.1,this.2.1,this.2.2⟩
       · refine Kc hT (S:=fun _=>False) (fun b hb=>hb.elim) v [] m c l (Ks _ v c hr hal) hl (fun q=>by simp) ?_
         intro k hkl
         have:=hlowS k hkl
         exact ⟨.inr this.1,this.2.1,this.2.2⟩
   · cases hf
 · cases hf
theorem zcJ {D:Den} {σ:Sig} (hF:zr P D σ) (hm:P.follows .mixedOrders=true) {f:Nat} {fn:Func} {c:Code} (hf:P.funcs[f]?=some fn) (hb:fn.body=some c) {an:List An} {A:AC} (hc:cC P fn.ntmps an c=some A)
    {m:Nat} {al:Bool} {args:List V} {r:V} (hn:args.length≤fn.ntmps) (hnt:Nat.ble fn.ntmps zJ=true)
    (h:A.wp D σ (fun e s=>(e = .nrm∨e = .ret)∧(MF P s fn.results.toList).bind (fin m al)=some r) (init args)):Yx P f m al args r:=by
 intro d w S τ vals hS hr h0
 have hI:=zh8 hS hr h0 hn (Nat.le_of_ble_eq_true hnt)
 refine calls_of_wp hf hb (zcv hF hm c A _ _ _ _ _ _ _ hc hI h ?_)
 rintro e s a w' S' τ' ⟨he,hres⟩ hI'
 simp only [Option.bind_eq_some_iff] at hres
 obtain ⟨v,hv,hfin⟩:=hres
 obtain ⟨cv,h1,h2,h3⟩:=Ld fn _ v rfl hv hI'
 obtain ⟨τ2,h4,h5,h6,h7⟩:=zkM hI' hfin h2 h3 d
 rcases he with rfl | rfl
 · exact ⟨hI'.defers,cv,h1,cv,τ2,rfl,h4.below,h5,h6,h7⟩
 · exact ⟨hI'.defers,cv,h1,cv,τ2,rfl,h4.below,h5,h6,h7⟩
end
end Go.Zq
namespace Go.Zq
section
variable {D:Den} {σ:Sig}
end
structure Ent where
 g:Nat
 den:List V→Option V
 m:Nat
 al:Bool
 sel:List V→Bool
def tD:List Ent→Den
 | [],_,_=>none
 | e :: t,g,args=>bif g == e.g && e.sel args then e.den args else tD t g args
def tS:List Ent→Sig
 | [],_=>none
 | e :: t,g=>if g=e.g then some (e.m,e.al) else tS t g
structure Ent.Ok (P:Program) (e:Ent):Prop where
 con:∀ args r,e.den args=some r→wn P (unk e.g) e.m e.al args r
 fn : ∃ fn, P.funcs[unk e.g]? = some fn ∧ fn.body.isNone = false ∧ (fn.name == "runtime.NumGoroutine") = false
theorem zcg {P:Program}:zr P (tD []) (tS []):=⟨fun _ _ _ _ _ h=>by simp [tD] at h,fun _ _ _ h=>by simp [tS] at h⟩
theorem zd0:∀ (t:List Ent) (g:Nat) (args:List V),tS t g=none→tD t g args=none
 | [],_,_,_=>rfl
 | e :: t,g,args,h=>by
   simp only [tS] at h
   split at h
   · cases h
   · rename_i hg
     have:(g == e.g)=false:=by simpa using hg
     simp only [tD,this,Bool.false_and,cond_false]
     exact zd0 t g args h
theorem zn {P:Program} {e:Ent} {t:List Ent} (he:e.Ok P) (ht:zr P (tD t) (tS t)) (hs:tS t e.g=none∨tS t e.g=some (e.m,e.al)):zr P (tD (e :: t)) (tS (e :: t)):=by
 refine ⟨?_,?_⟩
 · intro g args r m al hD hσ
   simp only [tD,tS] at hD hσ
   by_cases hg:g=e.g
   · subst hg
     rw [if_pos rfl] at hσ
     simp only [Option.some.injEq,Prod.mk.injEq] at hσ
     obtain ⟨rfl,rfl⟩:=hσ
     simp only [beq_self_eq_true,Bool.true_and] at hD
     cases hsel:e.sel args with
     | true=>rw [hsel] at hD;exact he.con args r hD
     | false=>
       rw [hsel,cond_false] at hD
       rcases hs with h | h
       · rw [zd0 t _ args h] at hD;cases hD
       · exact ht.con _ args r _ _ hD h
   · have:(g == e.g)=false:=by simpa using hg
     rw [this,Bool.false_and,cond_false] at hD
     rw [if_neg hg] at hσ
     exact ht.con g args r m al hD hσ
 · intro g m al hσ
   simp only [tS] at hσ
   split at hσ
   · rename_i hg;subst hg;exact he.fn
   · exact ht.fn g m al hσ
mutual
theorem Sh.beq_refl:∀ a:Sh,a.beq a=true
 | .s | .p=>rfl
 | .ag hs=>by simp [Sh.beq,Sh.beqs_refl hs]
theorem Sh.beqs_refl:∀ a:List Sh,Sh.beqs a a=true
 | []=>rfl
 | h :: hs=>by simp [Sh.beqs,Sh.beq_refl h,Sh.beqs_refl hs]
end
class Enc (α:Type) where
 enc:α→V
 dec:V→Option α
 shp:Sh
 dec_enc:∀ x,dec (enc x)=some x
 enc_dec:∀ v x,dec v=some x→enc x=v
 shape_enc:∀ x,(enc x).shape=shp
 erase_enc:∀ x,(enc x).erase=enc x
 toks_enc:∀ x,(enc x).toks=[]
 map_enc:∀ f x,V.map f (enc x)=enc x
 mem_enc:∀ x,(enc x).mem=true
 own0:∀ p x,V.own p 0 (enc x)=some []
 low0:∀ x,V.low 0 (enc x)=[]
 ret0:∀ x,V.ret 0 (enc x)=enc x
 tag0:∀ d p x,V.tag d p 0 (enc x)=enc x
 frz_enc:∀ K x,V.frz K (enc x)=enc x
 mut_enc:∀ t i q u x,V.mut t i q u (enc x)=enc x
open Enc (enc dec)
instance:Enc Int where
 enc x:=.int .i64 x
 dec | .int .i64 x=>some x | _=>none
 shp:=.s
 dec_enc _:=rfl
 enc_dec v x h:=by
  cases v with
  | int k n=>cases k <;> simp at h;subst h;rfl
  | _=>simp at h
 shape_enc _:=rfl
 erase_enc _:=rfl
 toks_enc _:=rfl
 map_enc _ _:=rfl
 mem_enc _:=rfl
 own0 _ _:=rfl
 low0 _:=rfl
 ret0 x:=rfl
 tag0 _ _ _:=rfl
 frz_enc _ _:=rfl
 mut_enc _ _ _ _ _:=rfl
instance:Enc Bool where
 enc x:=.bool x
 dec | .bool x=>some x | _=>none
 shp:=.s
 dec_enc _:=rfl
 enc_dec v x h:=by
  cases v with
  | bool n=>simp at h;subst h;rfl
  | _=>simp at h
 shape_enc _:=rfl
 erase_enc _:=rfl
 toks_enc _:=rfl
 map_enc _ _:=rfl
 mem_enc _:=rfl
 own0 _ _:=rfl
 low0 _:=rfl
 ret0 x:=rfl
 tag0 _ _ _:=rfl
 frz_enc _ _:=rfl
 mut_enc _ _ _ _ _:=rfl
def zbK {α:Type} [Enc α]:List V→Option (List α)
 | []=>some []
 | v :: vs=>match Enc.dec v,zbK vs with
   | some x,some xs=>some (x :: xs)
   | _,_=>none
theorem KC {α:Type} [Enc α]:∀ xs:List α,zbK (xs.map Enc.enc)=some xs
 | []=>rfl
 | x :: xs=>by simp [zbK,Enc.dec_enc,KC xs]
theorem KA {α:Type} [Enc α]:∀ (vs:List V) (xs:List α),zbK vs=some xs→xs.map Enc.enc=vs
 | [],xs,h=>by simp [zbK] at h;subst h;rfl
 | v :: vs,xs,h=>by
   simp only [zbK] at h
   split at h
   · rename_i x xs' h1 h2
     simp only [Option.some.injEq] at h;subst h
     simp [Enc.enc_dec v x h1,KA vs xs' h2]
   · cases h
theorem Yb {α:Type} [Enc α]:∀ xs:List α,V.erases (xs.map Enc.enc)=xs.map Enc.enc
 | []=>rfl
 | x :: xs=>by simp [V.erases,Enc.erase_enc,Yb xs]
theorem xG {α:Type} [Enc α]:∀ xs:List α,V.tokss (xs.map Enc.enc)=[]
 | []=>rfl
 | x :: xs=>by simp [V.tokss,Enc.toks_enc,xG xs]
theorem NN {α:Type} [Enc α] (f:Tok→Option Tok):∀ xs:List α,V.maps f (xs.map Enc.enc)=xs.map Enc.enc
 | []=>rfl
 | x :: xs=>by simp [V.maps,Enc.map_enc,NN f xs]
instance {α:Type} [Enc α]:Enc (List α) where
 enc xs:=.sl .sh (Enc.shp α) 0 (xs.map Enc.enc)
 dec | .sl .sh h 0 xs=>if h.beq (Enc.shp α) then zbK xs else none
     | _=>none
 shp:=.p
 dec_enc xs:=by simp [Sh.beq_refl,KC]
 enc_dec v xs h:=by
  split at h
  · split at h
    · rename_i hb
      rw [Sh.beq_eq _ _ hb,KA _ _ h]
    · cases h
  · cases h
 shape_enc _:=rfl
 erase_enc xs:=by simp [V.erase,Yb]
 toks_enc _:=rfl
 map_enc _ _:=rfl
 mem_enc _:=rfl
 own0 _ _:=rfl
 low0 _:=rfl
 ret0 x:=by simp [V.ret,Yb]
 tag0 _ _ _:=rfl
 frz_enc _ _:=rfl
 mut_enc _ _ _ _ _:=rfl
inductive NL (α:Type) where
 | nil
 | of (xs:List α)
def NL.list {α:Type}:NL α→List α
 | .nil=>[]
 | .of xs=>xs
instance {α β:Type} [Enc α] [Enc β]:Enc (α×β) where
 enc x:=.agg [Enc.enc x.1,Enc.enc x.2]
 dec | .agg [u,v]=>match Enc.dec u,Enc.dec v with
       | some x,some y=>some (x,y)
       | _,_=>none
     | _=>none
 shp:=.ag [Enc.shp α,Enc.shp β]
 dec_enc x:=by simp [Enc.dec_enc]
 enc_dec v x h:=by
  split at h
  · split at h
    · rename_i h1 h2
      simp only [Option.some.injEq] at h;subst h
      simp [Enc.enc_dec _ _ h1,Enc.enc_dec _ _ h2]
    · cases h
  · cases h
 shape_enc x:=by simp [V.shape,V.shapes,Enc.shape_enc]
 erase_enc x:=by simp [V.erase,V.erases,Enc.erase_enc]
 toks_enc x:=by simp [V.toks,V.tokss,Enc.toks_enc]
 map_enc f x:=by simp [V.map,V.maps,Enc.map_enc]
 mem_enc _:=rfl
 own0 p x:=by simp [V.own,V.owns,Enc.own0]
 low0 x:=by simp [V.low,V.lows,Enc.low0]
 ret0 x:=by simp [V.ret,V.rets,Enc.ret0]
 tag0 d p x:=by simp [V.tag,V.tags,Enc.tag0]
 frz_enc K x:=by simp [V.frz,V.frzs,Enc.frz_enc]
 mut_enc t i q u x:=by simp [V.mut,V.muts,Enc.mut_enc]
class Ret (α:Type) where
 ret:α→V
instance:Ret Int:=⟨Enc.enc⟩
instance:Ret Bool:=⟨Enc.enc⟩
instance {α:Type} [Enc α]:Ret (NL α):=⟨fun | .nil=>.sl .nl (Enc.shp α) 0 [] | .of xs=>.sl .sh (Enc.shp α) 0 (xs.map Enc.enc)⟩
instance {α β:Type} [Ret α] [Ret β]:Ret (α×β):=⟨fun x=>.tup [Ret.ret x.1,Ret.ret x.2]⟩
end Go.Zq
namespace Go.Zq
def xK (D:Den) (σ:Sig) (s:Nat→V) (d:Option Nat) (l:Bool) (x:X) (K:(Nat→V)→Prop):Prop:=
 match yk D σ s d l x with
 | some s'=>K s'
 | none=>False
def goK (D:Den) (σ:Sig):List I→(Nat→V)→((Nat→V)→Prop)→Prop
 | [],s,K=>K s
 | i :: is,s,K=>match i.g with
   | none=>xK D σ s i.d i.l i.x fun s'=>goK D σ is s' K
   | some (j,want)=>match s j with
     | .bool b=>if b=want then xK D σ s i.d i.l i.x (fun s'=>goK D σ is s' K) else goK D σ is (put s i.d (.tup [])) K
     | .tup []=>goK D σ is (put s i.d (.tup [])) K
     | _=>False
def epK:List E→(Nat→V)→((Nat→V)→Prop)→Prop
 | [],s,K=>K s
 | e :: es,s,K=>match Jt s e with
   | some s'=>epK es s' K
   | none=>False
section
variable {D:Den} {σ:Sig}
theorem WZ:∀ (is:List I) (s:Nat→V) (K:(Nat→V)→Prop),goK D σ is s K→∃ s',YX D σ is s=some s'∧K s'
 | [],s,K,h=>⟨s,rfl,h⟩
 | i :: is,s,K,h=>by
   simp only [goK] at h
   simp only [YX,Zq.step]
   split at h
   · rename_i hg
     try simp only [hg]
     simp only [xK] at h
     split at h
     · rename_i s1 h1
       try simp only [h1]
       exact WZ is s1 K h
     · exact h.elim
   · rename_i j want hg
     try simp only [hg]
     split at h
     · rename_i b hb
       try simp only [hb]
       split at h
       · rename_i hw
         try simp only [if_pos hw]
         simp only [xK] at h
         split at h
         · rename_i s1 h1
           try simp only [h1]
           exact WZ is s1 K h
         · exact h.elim
       · rename_i hw
         try simp only [if_neg hw]
         exact WZ is _ K h
     · rename_i hb
       try simp only [hb]
       exact WZ is _ K h
     · exact h.elim
theorem L8:∀ (es:List E) (s:Nat→V) (K:(Nat→V)→Prop),epK es s K→∃ s',Uq es s=some s'∧K s'
 | [],s,K,h=>⟨s,rfl,h⟩
 | e :: es,s,K,h=>by
   simp only [epK] at h
   simp only [Uq]
   split at h
   · rename_i s1 h1
     try simp only [h1]
     exact L8 es s1 K h
   · exact h.elim
def AC.ok (D:Den) (σ:Sig):AC→Zs→(Nat→V)→Prop
 | .skip,Q,s=>Q .nrm s
 | .reg pk is ep,Q,s=>epK pk s fun s0=>goK D σ is s0 fun s1=>epK ep s1 (Q .nrm)
 | .seq a b,Q,s=>a.ok D σ (Zs.thn (b.ok D σ Q) Q) s
 | .cond c a b,Q,s=>match c.ev s with
   | .bool t=>if t then a.ok D σ Q s else b.ok D σ Q s
   | _=>False
 | .block id a,Q,s=>a.ok D σ (Zs.blk id Q) s
 | .loop a,Q,s=>∃ k,rounds (a.ok D σ) Q k s
 | .exit id,Q,s=>Q (.exit id) s
 | .ret,Q,s=>Q .ret s
variable {Q:Zs} {s:Nat→V} {K:(Nat→V)→Prop}
theorem zvx {d:Option Nat} {l:Bool} {a:A}:xK D σ s d l (.v a) K=(match z8 s a with | some v=>K (put s d v) | none=>False):=by
 cases h:z8 s a <;> simp [xK,yk,h]
end
end Go.Zq
namespace Go.Zq
inductive Fr where
 | sq (b:AC)
 | bk (id:Nat)
 | lp (a:AC)
inductive Cf where
 | run (a:AC) (k:List Fr)
 | nrm (k:List Fr)
 | ext (id:Nat) (k:List Fr)
inductive Run (D:Den) (σ:Sig) (R:(Nat→V)→Prop):Cf→(Nat→V)→Prop
 | skip {k s}:Run D σ R (.nrm k) s→Run D σ R (.run .skip k) s
 | reg {pk is ep k s s0 s1 s2}:Uq pk s=some s0→YX D σ is s0=some s1→Uq ep s1=some s2→Run D σ R (.nrm k) s2→Run D σ R (.run (.reg pk is ep) k) s
 | seq {a b k s}:Run D σ R (.run a (.sq b :: k)) s→Run D σ R (.run (.seq a b) k) s
 | cond {c a b k s t}:c.ev s = .bool t→Run D σ R (.run (if t then a else b) k) s→Run D σ R (.run (.cond c a b) k) s
 | block {id a k s}:Run D σ R (.run a (.bk id :: k)) s→Run D σ R (.run (.block id a) k) s
 | loop {a k s}:Run D σ R (.run a (.lp a :: k)) s→Run D σ R (.run (.loop a) k) s
 | exit {id k s}:Run D σ R (.ext id k) s→Run D σ R (.run (.exit id) k) s
 | ret {k s}:R s→Run D σ R (.run .ret k) s
 | nil {s}:R s→Run D σ R (.nrm []) s
 | nsq {b k s}:Run D σ R (.run b k) s→Run D σ R (.nrm (.sq b :: k)) s
 | nbk {id k s}:Run D σ R (.nrm k) s→Run D σ R (.nrm (.bk id :: k)) s
 | nlp {a k s}:Run D σ R (.run a (.lp a :: k)) s→Run D σ R (.nrm (.lp a :: k)) s
 | esq {id b k s}:Run D σ R (.ext id k) s→Run D σ R (.ext id (.sq b :: k)) s
 | ebk {id k s}:Run D σ R (.nrm k) s→Run D σ R (.ext id (.bk id :: k)) s
 | ebn {i id k s}:i≠id→Run D σ R (.ext i k) s→Run D σ R (.ext i (.bk id :: k)) s
 | elp {i a k s}:Run D σ R (.ext i k) s→Run D σ R (.ext i (.lp a :: k)) s
def UC (D:Den) (σ:Sig) (R:(Nat→V)→Prop):List Fr→Zs
 | []=>fun e s=>(e = .nrm∨e = .ret)∧R s
 | .sq b :: k=>Zs.thn (b.wp D σ (UC D σ R k)) (UC D σ R k)
 | .bk id :: k=>Zs.blk id (UC D σ R k)
 | .lp a :: k=>Zs.thn (fun s=>∃ n,rounds (a.wp D σ) (UC D σ R k) n s) (UC D σ R k)
section
variable {D:Den} {σ:Sig} {R:(Nat→V)→Prop}
theorem Jo {s:Nat→V} (h:R s):∀ k,UC D σ R k .ret s
 | []=>⟨.inr rfl,h⟩
 | .sq _ :: k=>Jo h k
 | .bk _ :: k=>Jo h k
 | .lp _ :: k=>Jo h k
theorem znq:∀ (A:AC) {Q:Zs} {s:Nat→V},A.wp D σ Q s→∃ e s',Q e s'∧∀ Q':Zs,Q' e s'→A.wp D σ Q' s:=by
 intro A
 induction A with
 | skip=>intro Q s h;exact ⟨_,_,h,fun _ h=>h⟩
 | reg pk is ep=>
   intro Q s h
   simp only [AC.wp] at h ⊢
   cases h0:Uq pk s with
   | none=>simp only [h0] at h
   | some s0=>
     simp only [h0] at h ⊢
     cases h1:YX D σ is s0 with
     | none=>simp only [h1] at h
     | some s1=>
       simp only [h1] at h ⊢
       cases h2:Uq ep s1 with
       | none=>simp only [h2] at h
       | some s2=>simp only [h2] at h ⊢;exact ⟨_,_,h,fun _ h=>h⟩
 | seq a b iha ihb=>
   intro Q s h
   obtain ⟨e,s1,h1,h2⟩:=iha h
   cases e with
   | nrm=>
     obtain ⟨e2,s2,h3,h4⟩:=ihb h1
     exact ⟨e2,s2,h3,fun Q' hq=>h2 _ (h4 Q' hq)⟩
   | exit id=>exact ⟨_,_,h1,fun Q' hq=>h2 _ hq⟩
   | ret=>exact ⟨_,_,h1,fun Q' hq=>h2 _ hq⟩
 | cond c a b iha ihb=>
   intro Q s h
   simp only [AC.wp] at h ⊢
   cases hc:c.ev s with
   | bool t=>
     simp only [hc] at h ⊢
     cases t with
     | true=>exact iha h
     | false=>exact ihb h
   | _=>simp only [hc] at h
 | block id a ih=>
   intro Q s h
   obtain ⟨e,s1,h1,h2⟩:=ih h
   cases e with
   | nrm=>exact ⟨.nrm,s1,h1,fun Q' hq=>h2 _ hq⟩
   | ret=>exact ⟨.ret,s1,h1,fun Q' hq=>h2 _ hq⟩
   | exit i=>
     simp only [Zs.blk] at h1
     split at h1
     · rename_i e;exact ⟨.nrm,s1,h1,fun Q' hq=>h2 _ (by simp only [Zs.blk,if_pos e];exact hq)⟩
     · rename_i e;exact ⟨.exit i,s1,h1,fun Q' hq=>h2 _ (by simp only [Zs.blk,if_neg e];exact hq)⟩
 | loop a ih=>
   intro Q s h
   obtain ⟨n,hn⟩:=h
   have key:∀ n s,rounds (a.wp D σ) Q n s→∃ e s',Q e s'∧∀ Q':Zs,Q' e s'→∃ m,rounds (a.wp D σ) Q' m s:=by
    intro n
    induction n with
    | zero=>intro s h;exact h.elim
    | succ n ihn=>
      intro s h
      obtain ⟨e,s1,h1,h2⟩:=ih h
      cases e with
      | nrm=>
        obtain ⟨e2,s2,h3,h4⟩:=ihn s1 h1
        refine ⟨e2,s2,h3,fun Q' hq=>?_⟩
        obtain ⟨m,hm⟩:=h4 Q' hq
        exact ⟨m + 1,h2 _ hm⟩
      | exit id=>exact ⟨_,_,h1,fun Q' hq=>⟨1,h2 _ hq⟩⟩
      | ret=>exact ⟨_,_,h1,fun Q' hq=>⟨1,h2 _ hq⟩⟩
   exact key n s hn
 | exit id=>intro Q s h;exact ⟨_,_,h,fun _ h=>h⟩
 | ret=>intro Q s h;exact ⟨_,_,h,fun _ h=>h⟩
theorem N0 {a:AC} {Q:Zs} {s:Nat→V} (h:a.wp D σ (Zs.thn (fun s=>∃ n,rounds (a.wp D σ) Q n s) Q) s):∃ n,rounds (a.wp D σ) Q n s:=by
 obtain ⟨e,s1,h1,h2⟩:=znq a h
 cases e with
 | nrm=>
   obtain ⟨n,hn⟩:=h1
   exact ⟨n + 1,h2 _ hn⟩
 | exit id=>exact ⟨1,h2 _ h1⟩
 | ret=>exact ⟨1,h2 _ h1⟩
def ziX (D:Den) (σ:Sig) (R:(Nat→V)→Prop):Cf→(Nat→V)→Prop
 | .run a k,s=>a.wp D σ (UC D σ R k) s
 | .nrm k,s=>UC D σ R k .nrm s
 | .ext id k,s=>UC D σ R k (.exit id) s
theorem zcY {c:Cf} {s:Nat→V} (h:Run D σ R c s):ziX D σ R c s:=by
 induction h with
 | skip _ ih=>exact ih
 | reg h0 h1 h2 _ ih=>simp only [ziX,AC.wp,h0,h1,h2];exact ih
 | seq _ ih=>exact ih
 | cond hc _ ih=>
   rename_i t _
   simp only [ziX,AC.wp,hc] at ih ⊢
   cases t
   · exact ih
   · exact ih
 | block _ ih=>exact ih
 | loop _ ih=>exact N0 ih
 | exit _ ih=>exact ih
 | ret h=>exact Jo h _
 | nil h=>exact ⟨.inl rfl,h⟩
 | nsq _ ih=>exact ih
 | nbk _ ih=>exact ih
 | nlp _ ih=>exact N0 ih
 | esq _ ih=>exact ih
 | ebk _ ih=>simp only [ziX,UC,Zs.blk,if_true];exact ih
 | ebn hn _ ih=>simp only [ziX,UC,Zs.blk,if_neg hn];exact ih
 | elp _ ih=>exact ih
theorem Yz {P:Program} (hF:zr P D σ) (hm:P.follows .mixedOrders=true) {f:Nat} {fn:Func} {c:Code} (hf:P.funcs[f]?=some fn) (hb:fn.body=some c) {an:List An} {A:AC} (hc:cC P fn.ntmps an c=some A)
    {m:Nat} {al:Bool} {args:List V} {r:V} (hn:args.length≤fn.ntmps)
    (h:Run D σ (fun s=>(MF P s fn.results.toList).bind (fin m al)=some r) (.run A []) (init args)) (hnt:Nat.ble fn.ntmps zJ=true:=by decide) (hmp:Nat.ble zJ m=false:=by rfl):wn P f m al args r:=by
 have h1:=zcJ hF hm hf hb hc hn hnt (zcY h)
 unfold wn
 rw [if_neg (by rintro rfl;exact absurd hmp (by decide)),if_neg (by rintro rfl;exact absurd hmp (by decide)),if_neg (by rintro rfl;exact absurd hmp (by decide))]
 exact h1
variable {s:Nat→V} {K:(Nat→V)→Prop} {is:List I}
theorem zo {pk ep k} (h:epK pk s fun s0=>goK D σ is s0 fun s1=>epK ep s1 (Run D σ R (.nrm k))):Run D σ R (.run (.reg pk is ep) k) s:=by
 obtain ⟨s0,h5,h6⟩:=L8 _ _ _ h
 obtain ⟨s1,h1,h2⟩:=WZ _ _ _ h6
 obtain ⟨s2,h3,h4⟩:=L8 _ _ _ h2
 exact .reg h5 h1 h3 h4
theorem zg {γ:Type} {r:γ} {A B:Option γ} {c:O} {a b:AC} {k:List Fr} {t:Bool} (hc:c.ev s = .bool t) (h:(bif t then A else B)=some r)
    (h1:A=some r→Run D σ R (.run a k) s) (h2:B=some r→Run D σ R (.run b k) s):Run D σ R (.run (.cond c a b) k) s:=by
 refine .cond hc ?_
 cases t with
 | true=>exact h1 h
 | false=>exact h2 h
theorem bind_some {α β:Type} {x:Option α} {f:α→Option β} {r:β} (h:x.bind f=some r):∃ a,x=some a∧f a=some r:=by
 cases x with
 | none=>cases h
 | some a=>exact ⟨a,rfl,h⟩
def zk:List (Nat×V)→(Nat→V)→Prop
 | [],_=>True
 | [(t,v)],s=>s t=v
 | (t,v) :: L,s=>s t=v∧zk L s
theorem g_v {d:Nat} {l:Bool} {a:A} (v:V) (h:z8 s a=some v) (H:goK D σ is (upd s d v) K):goK D σ (⟨some d,none,l,.v a⟩ :: is) s K:=by
 simp only [goK,zvx,h,put];exact H
theorem zh {d j:Nat} {l b:Bool} {x:X} (hj:s j = .bool b) (H:goK D σ (⟨some d,none,l,x⟩ :: is) s K):goK D σ (⟨some d,some (j,b),l,x⟩ :: is) s K:=by
 simp only [goK,hj,if_true];exact H
theorem zw {d j:Nat} {l b:Bool} {x:X} (hj:s j = .bool (!b)) (H:goK D σ is (upd s d (.tup [])) K):goK D σ (⟨some d,some (j,b),l,x⟩ :: is) s K:=by
 simp only [goK,hj]
 rw [if_neg (by cases b <;> simp)];exact H
theorem ZV {d j:Nat} {l b:Bool} {x:X} (hj:s j = .tup []) (H:goK D σ is (upd s d (.tup [])) K):goK D σ (⟨some d,some (j,b),l,x⟩ :: is) s K:=by
 simp only [goK,hj];exact H
theorem xo {d:Nat} {l:Bool} {x:O} (v:V) (h:x.rd s=some v) (hg:s d = .gone) (hm:v.mem=true) (H:goK D σ is (upd s d (.ref (.bx d) 0 [] v)) K):goK D σ (⟨some d,none,l,.box x⟩ :: is) s K:=by
 simp only [goK,xK,yk,h,hg,hm,if_true];exact H
theorem wk {d:Nat} {l:Bool} {z:V} (hg:s d = .gone) (H:goK D σ is (upd s d (.ref (.bx d) 0 [] z)) K):goK D σ (⟨some d,none,l,.alloc z⟩ :: is) s K:=by
 simp only [goK,xK,yk,hg];exact H
theorem yd {l:Bool} {g:Sh} {x y:O} {t i q c} (v:V) (hx:x.rd s=some (.ref t i q c)) (hy:y.rd s=some v) (h:t≠.sh∧t≠.nl∧v.mem=true∧v.shape.beq g=true∧c.shape.beq g=true∧v.toks.contains t=false)
    (H:goK D σ is (X5 t i q v s) K):goK D σ (⟨none,none,l,.store g x y⟩ :: is) s K:=by
 simp only [goK,xK,yk,hx,hy];rw [if_pos h];exact H
end
end Go.Zq
namespace Go.Zq
def zj {α:Type} [Enc α] (t:Tok):NL α→V
 | .nil=>.sl .nl (Enc.shp α) 0 []
 | .of xs=>.sl t (Enc.shp α) 0 (xs.map Enc.enc)
def idx {α:Type} (xs:List α) (i:Int):Option α:=if 0≤i then xs[i.toNat]? else none
def mkN {α:Type} (m:Int) (x:α):Option (List α):=if 0≤m∧m≤2 ^ 40 then some (List.replicate m.toNat x) else none
def zkq {α:Type} (o:NL α) (ys:List α):Option (NL α):=if o.list.length + ys.length≤2 ^ 40 then (match o,ys with
 | .nil,[]=>some .nil
 | o,ys=>some (.of (o.list++ys))) else none
def sub {α:Type} (xs:List α) (a b:Int):Option (List α):=if 0≤a∧a≤b∧b≤xs.length then some ((xs.drop a.toNat).take (b.toNat - a.toNat)) else none
def zo7 (pk:List Nat) (k:Tok):Option Tok:=if pk.any (fun r=>k.root? == some r) then none else some k
def Wa (t:Tok) (k:Tok):Option Tok:=if k == t then none else some k
section
variable {D:Den} {σ:Sig} {R:(Nat→V)→Prop} {s:Nat→V} {K:(Nat→V)→Prop} {is:List I}
theorem zl {α:Type} [Enc α] {f:Tok→Option Tok} {r:Nat} {p:List Nat} {t':Tok} {o:NL α} (hf:f (.at r p)=some t') (hn:f .nl=some .nl):V.map f (zj (.at r p) o)=zj t' o:=by
 cases o with
 | nil=>simp [zj,V.map,hn,V.maps]
 | of xs=>simp [zj,V.map,hf,NN]
theorem Zg {α:Type} [Enc α] {t:Tok} {o:NL α}:(zj t o).erase=Enc.enc o.list:=by
 cases o with
 | nil=>simp [zj,V.erase,NL.list,Enc.enc,V.erases]
 | of xs=>simp [zj,V.erase,NL.list,Enc.enc,Yb]
theorem zx {x:O} {v:V} (h:x.ev s=v) (hk:v.ok=true):x.rd s=some v:=by
 unfold O.rd;rw [h,if_pos hk]
theorem zlK {x:O} {v:V} (h:x.ev s=v) (hk:v.ok=true):x.pk s=v:=by
 unfold O.pk;rw [h];cases v <;> first | rfl | simp [V.ok] at hk
theorem zjm {α:Type} [Enc α] {x:O} {t:Tok} {h:Sh} {lo:Nat} {xs:List α} (hx:x.ev s = .sl t h lo (xs.map Enc.enc)):z8 s (.len x)=some (.int .i64 xs.length):=by
 simp only [z8,zlK hx rfl,List.length_map]
theorem J3 {α:Type} [Enc α] {x:O} {t:Tok} {o:NL α} (hx:x.ev s=zj t o):z8 s (.len x)=some (.int .i64 o.list.length):=by
 cases o with
 | nil=>simp only [z8,zj] at hx ⊢;rw [zlK hx rfl];rfl
 | of xs=>exact zjm (h:=Enc.shp α) (lo:=0) hx
theorem yq {α:Type} [Enc α] {x i:O} {t:Tok} {lo e:Nat} {xs:List α} {k:IntKind} {n:Int} {a:α} (hx:x.ev s = .sl t (Enc.shp α) lo (xs.map Enc.enc)) (hi:i.ev s = .int k n) (ha:idx xs n=some a)
    (he:(Enc.shp α).size=e) (ht:(t != .nl && !t.isBx)=true):z8 s (.idx x i e)=some (.ref t (if t = .sh then 0 else lo + n.toNat) [] (Enc.enc a)):=by
 unfold idx at ha
 split at ha
 · rename_i h0
   simp only [z8,zx hx rfl,zx hi rfl,h0,if_true,List.getElem?_map,ha,Option.map_some,he,beq_self_eq_true,Bool.true_and,ht]
 · cases ha
theorem wU {α:Type} [Enc α] {x i:O} {r:Nat} {p:List Nat} {e:Nat} {o:NL α} {k:IntKind} {n:Int} {a:α} (hx:x.ev s=zj (.at r p) o) (hi:i.ev s = .int k n) (ha:idx o.list n=some a)
    (he:(Enc.shp α).size=e):z8 s (.idx x i e)=some (.ref (.at r p) n.toNat [] (Enc.enc a)):=by
 cases o with
 | nil=>simp [idx,NL.list] at ha
 | of xs=>
   have:=yq (t:=.at r p) (lo:=0) hx hi ha he (by simp [Tok.isBx])
   simpa using this
theorem zkL {α:Type} [Enc α] {d:Nat} {n:O} {z z0:V} {k:IntKind} {m:Int} {xs:List α} (x:α) (hn:n.ev s = .int k m) (hz:z=Enc.enc x) (hg:s d = .gone) (ho:mkN m x=some xs)
    (H:goK D σ is (upd s d (.sl (.at d []) (Enc.shp α) 0 (xs.map Enc.enc))) K):goK D σ (⟨some d,none,false,.mk n z z0⟩ :: is) s K:=by
 unfold mkN at ho
 split at ho
 · rename_i hb
   simp only [Option.some.injEq] at ho;subst ho;subst hz
   simp only [goK,xK,yk,zx hn rfl,hg,if_pos hb]
   simp only [Bool.false_eq_true,if_false,Enc.shape_enc]
   simp only [List.map_replicate] at H
   exact H
 · cases ho
theorem zq8 {d:Nat} {z:V} {len:Nat} {ps:List (Nat×Nat×O)} (vs:List V) (h:xB s ps (List.replicate len z)=some vs) (hg:s d = .gone)
    (H:goK D σ is (upd s d (.sl (.at d []) z.shape 0 vs)) K):goK D σ (⟨some d,none,false,.lit z len ps⟩ :: is) s K:=by
 simp only [goK,xK,yk,h,hg]
 simp only [Bool.false_eq_true,if_false]
 exact H
theorem Xd {α:Type} [Enc α] {d r q:Nat} {p:List Nat} {g:Sh} {o o':NL α} {ys:List α} {y:O} {t2:Tok} {lo2:Nat} (hx:s r=zj (.at q p) o) (hy:y.ev s = .sl t2 (Enc.shp α) lo2 (ys.map Enc.enc)) (hgg:g=Enc.shp α) (hg:s d = .gone) (ha:zkq o ys=some o')
    (H:∀ s1,(∀ t v u,s t=v→V.map (Wa (.at q p)) v=u→(o = .nil→v=u)→s1 t=u)→goK D σ is (upd s1 d (zj (.at d []) o')) K):goK D σ (⟨some d,none,false,.app g (.t r) y⟩ :: is) s K:=by
 subst hgg
 unfold zkq at ha
 split at ha
 · rename_i hlen
   cases o with
   | nil=>
     have hsp:spent s (.t r)=some (s,.sl .nl (Enc.shp α) 0 []):=by simp only [spent];rw [hx];rfl
     simp only [goK,xK,yk,hsp,zx hy rfl,hg,Sh.beq_refl,xG,List.isEmpty_nil,Bool.or_true,Bool.true_and]
     simp only [NL.list,List.length_nil] at hlen
     rw [if_pos (by simpa using hlen)]
     have:=H s (fun t v u h1 _ h3=>h1.trans (h3 rfl))
     simp only [Bool.false_and,Bool.false_eq_true,if_false]
     have e:WW d .nl (Enc.shp α) [] (ys.map Enc.enc)=zj (.at d []) o':=by
      cases ys with
      | nil=>simp at ha;subst ha;rfl
      | cons y ys=>simp [NL.list] at ha;subst ha;rfl
     rw [e];exact this
   | of xs=>
     have hsp:spent s (.t r)=some (XM (Wa (.at q p)) s,.sl (.at q p) (Enc.shp α) 0 (xs.map Enc.enc)):=by
      simp only [spent];rw [hx];simp only [zj,xG,List.contains_nil,Bool.not_false,if_true];rfl
     have hgd:XM (Wa (.at q p)) s d = .gone:=by simp only [XM,hg];rfl
     simp only [goK,xK,yk,hsp,zx hy rfl,hgd,Sh.beq_refl,xG,List.isEmpty_nil,Bool.or_true,Bool.true_and]
     simp only [NL.list] at hlen
     rw [if_pos (by simpa using hlen)]
     have:=H (XM (Wa (.at q p)) s) (fun t v u h1 h2 _=>by simp only [XM,h1];exact h2)
     simp only [Bool.false_and,Bool.false_eq_true,if_false]
     have e:WW d (.at q p) (Enc.shp α) (xs.map Enc.enc) (ys.map Enc.enc)=zj (.at d []) o':=by
      have:o' = .of (xs++ys):=by cases ys <;> simp [NL.list] at ha <;> simp [ha.symm]
      subst this
      simp [WW,zj]
     rw [e];exact this
 · cases ha
theorem zy {d g m:Nat} {al:Bool} {as:List O} {r:V} (vs:List V) (hv:yG as s=some (vs,s)) (hD:D g vs=some r) (hσ:σ g=some (m,al)) (hal:(al && !(yw s as).isEmpty)=false)
    (hr:r.toks=[]) (ht:(V.tag d [] m r).toks=[]) (hok:(V.tag d [] m r).ok=true) (H:goK D σ is (upd s d (V.tag d [] m r)) K) (hmp:Nat.ble zJ m=false:=by rfl) (hgm:Nat.ble ZJ g=false:=by rfl):goK D σ (⟨some d,none,false,.call (.k (.fn g [] [])) as⟩ :: is) s K:=by
 have h0:(V.fn g [] []).toks=[]:=by simp [V.toks,V.tokss]
 have h1:O.rd s (.k (.fn g [] []))=some (.fn g [] []):=rfl
 have hal':¬ ((al && !((yw s as).isEmpty && (V.fn g [] []).toks.isEmpty))=true):=by simp [h0];simpa using hal
 simp only [goK,xK,yk,Ur,h1,hv,V.erases,List.nil_append,List.append_nil,key,cond_false,hD,hσ,hgm,Bool.false_eq_true,if_false]
 rw [if_neg hal']
 simp only [hr,hmp,Bool.not_false,List.isEmpty_nil,List.all_nil,Bool.and_self,if_true,Option.getD_some,place,ht,hok,put]
 exact H
end
end Go.Zq
namespace Go.Zq
section
variable {D:Den} {σ:Sig} {R:(Nat→V)→Prop} {s:Nat→V} {K:(Nat→V)→Prop} {is:List I}
theorem yL {ep:List E} (H:epK ep s K):goK D σ [] s (fun s1=>epK ep s1 K):=H
theorem zuh (H:K s):epK [] s K:=H
theorem zvW {d:Nat} {l:Bool} {a:A} (v:V) (he:z8 (fun _=>.dead) a=some v) (hr:a.rds=[]) (H:goK D σ is (upd s d v) K):goK D σ (⟨some d,none,l,.v a⟩ :: is) s K:=
 g_v v (by rw [ur (s2:=fun _=>.dead) (by rw [hr];intro t ht;cases ht)];exact he) H
theorem zvU {d:Nat} {l:Bool} {a:A} {t:Nat} {u:V} (v:V) (h:s t=u) (he:z8 (fun _=>u) a=some v) (hr:(a.rds.all fun k=>k == t)=true) (H:goK D σ is (upd s d v) K):goK D σ (⟨some d,none,l,.v a⟩ :: is) s K:=
 g_v v (by
  rw [ur (s2:=fun _=>u)]
  · exact he
  · intro k hk
    have:=List.all_eq_true.1 hr k hk
    simp at this;subst this;exact h) H
theorem zvb {d:Nat} {l:Bool} {a:A} {t1 t2:Nat} {u1 u2:V} (v:V) (h1:s t1=u1) (h2:s t2=u2) (he:z8 (fun k=>if k=t1 then u1 else u2) a=some v) (hr:(a.rds.all fun k=>k == t1 || k == t2)=true) (H:goK D σ is (upd s d v) K) :
    goK D σ (⟨some d,none,l,.v a⟩ :: is) s K:=
 g_v v (by
  rw [ur (s2:=fun k=>if k=t1 then u1 else u2)]
  · exact he
  · intro k hk
    have:=List.all_eq_true.1 hr k hk
    simp only [Bool.or_eq_true,beq_iff_eq] at this
    by_cases e:k=t1
    · simp only [e,if_true];exact h1
    · have:k=t2:=this.resolve_left e
      subst this;simp only [if_neg e];exact h2) H
theorem zuR {d:Nat} {l:Bool} {a:A} {t1 t2 t3:Nat} {u1 u2 u3:V} (v:V) (h1:s t1=u1) (h2:s t2=u2) (h3:s t3=u3) (he:z8 (fun k=>if k=t1 then u1 else if k=t2 then u2 else u3) a=some v) (hr:(a.rds.all fun k=>k == t1 || (k == t2 || k == t3))=true)
    (H:goK D σ is (upd s d v) K):goK D σ (⟨some d,none,l,.v a⟩ :: is) s K:=
 g_v v (by
  rw [ur (s2:=fun k=>if k=t1 then u1 else if k=t2 then u2 else u3)]
  · exact he
  · intro k hk
    have:=List.all_eq_true.1 hr k hk
    simp only [Bool.or_eq_true,beq_iff_eq] at this
    by_cases e:k=t1
    · simp only [e,if_true];exact h1
    · by_cases e2:k=t2
      · subst e2;simp only [if_neg e,if_true];exact h2
      · have:k=t3:=(this.resolve_left e).resolve_left e2
        subst this;simp only [if_neg e,if_neg e2];exact h3) H
end
end Go.Zq
namespace Go.Zq
abbrev w64 (x:Int):Int:=IntKind.i64.wrap x
def yp (k:IntKind) (x y:Int):Int:=k.wrap (BitVec.ofInt k.bits x &&& BitVec.ofInt k.bits y).toNat
def ior (k:IntKind) (x y:Int):Int:=k.wrap (BitVec.ofInt k.bits x ||| BitVec.ofInt k.bits y).toNat
def xp (k:IntKind) (x y:Int):Int:=k.wrap (BitVec.ofInt k.bits x &&& ~~~BitVec.ofInt k.bits y).toNat
def RR (P:Program) (rs:List ResultVar) (m:Nat) (al:Bool) (r:V) (s:Nat→V):Prop:=(MF P s rs).bind (fin m al)=some r
instance {α:Type} [Enc α]:Ret (List α):=⟨Enc.enc⟩
section
variable {D:Den} {σ:Sig} {R:(Nat→V)→Prop} {s:Nat→V} {P:Program}
theorem zgk {c:O} {a b:AC} {k:List Fr} (hc:c.ev s = .bool false) (h:Run D σ R (.run b k) s):Run D σ R (.run (.cond c a b) k) s:=.cond hc h
theorem zU {γ:Type} {r:γ} {A B:Option γ} {c:Bool} {G:Prop} (h:(bif c then A else B)=some r) (h1:c=true→A=some r→G) (h2:c=false→B=some r→G):G:=by
 cases c with
 | true=>exact h1 rfl h
 | false=>exact h2 rfl h
theorem zp:yG [] s=some ([],s):=rfl
theorem zc {s1:Nat→V} {x:O} {xs:List O} {v u:V} {vs:List V} (h:x.ev s=v) (hk:v.ok=true) (he:v.erase=u) (hvs:yG xs s=some (vs,s1)):yG (x :: xs) s=some (u :: vs,s1):=by
 subst he
 simp only [yG,h]
 cases v <;> first | (simp [V.ok] at hk;done) | simp only [hvs,Option.map_some]
theorem XO:yw s []=[]:=rfl
theorem vp {x:O} {xs:List O} {v:V} (h:x.ev s=v) (hk:v.ok=true) (h0:v.toks=[]) (hs:yw s xs=[]):yw s (x :: xs)=[]:=by
 simp only [yw,h,hs,List.append_nil]
 cases v <;> first | (simp [V.ok] at hk;done) | exact h0
theorem X0 {as:List O} {al:Bool} (h:yw s as=[]):(al && !(yw s as).isEmpty)=false:=by simp [h]
variable {K:(Nat→V)→Prop} {is:List I}
def Kw:List (Nat×V)→Nat→V
 | [],_=>.dead
 | (t,v) :: L,k=>if k=t then v else Kw L k
theorem Ka:∀ (L:List (Nat×V)) (s:Nat→V),zk L s→∀ k,(L.any fun x=>x.1 == k)=true→s k=Kw L k
 | [],_,_,k,h=>by simp at h
 | [(t,v)],s,hf,k,h=>by
   simp only [List.any_cons,List.any_nil,Bool.or_false,beq_iff_eq] at h
   subst h;simp only [Kw,if_true];exact hf
 | (t,v) :: y :: L,s,hf,k,h=>by
   by_cases e:k=t
   · subst e;simp only [Kw,if_true];exact hf.1
   · rw [Kw,if_neg e]
     refine Ka (y :: L) s hf.2 k ?_
     simp only [List.any_cons,Bool.or_eq_true,beq_iff_eq] at h ⊢
     exact h.resolve_left fun h=>e h.symm
theorem xq {d:Nat} {z:V} {len:Nat} {ps:List (Nat×Nat×O)} (L:List (Nat×V)) (vs:List V) (hs:zk L s) (h:xB (Kw L) ps (List.replicate len z)=some vs)
    (hr:((ps.flatMap fun p=>p.2.2.rds).all fun k=>L.any fun x=>x.1 == k)=true) (hg:s d = .gone)
    (H:goK D σ is (upd s d (.sl (.at d []) z.shape 0 vs)) K):goK D σ (⟨some d,none,false,.lit z len ps⟩ :: is) s K:=
 zq8 vs (by rw [vZ (s2:=Kw L) fun k hk=>Ka L s hs k (List.all_eq_true.1 hr k hk)];exact h) hg H
theorem zT {pk:List Nat} {es:List E} (H:epK es (clear pk s) K):epK (.clr pk :: es) s K:=H
theorem za {pk:List Nat} {t:Nat} {v:V} (h:s t=v) (hn:pk.contains t=false) (hm:V.map (zo7 pk) v=v):clear pk s t=v:=by
 simp only [clear,hn,h];exact hm
theorem zb {pk:List Nat} {t:Nat} (hn:pk.contains t=true):clear pk s t = .gone:=by
 simp only [clear,hn,if_true]
theorem yr {r x:Nat} {es:List E} {v:V} (hx:s x=v) (hk:v.ok=true) (H:∀ s1,(∀ t u u',s t=u→V.map (Us r x) u=u'→s1 t=u')→epK es s1 K) (hp:Nat.ble zJ x=false:=by rfl):epK (.home r x :: es) s K:=by
 have:Jt s (.home r x)=some (XM (Us r x) s):=by
  simp only [Jt,hx,hp]
  cases v <;> first | (simp [V.ok] at hk;done) | rfl
 simp only [epK,this]
 exact H _ fun t u u' h1 h2=>by simp only [XM,h1,h2]
theorem Lm {x:Nat} {es:List E} {v:V} (ks:List Tok) (hx:s x=v) (hk:v.toks=ks) (H:∀ s1,(∀ t u u',s t=u→V.frz ks u=u'→s1 t=u')→epK es s1 K):epK (.frz x :: es) s K:=by
 have:Jt s (.frz x)=some fun t=>V.frz ks (s t):=by simp only [Jt,hx,hk]
 simp only [epK,this]
 exact H _ fun t u u' h1 h2=>by simp only [h1,h2]
theorem zL {s1:Nat→V} {tk:Tok} {t:Nat} {v:V} {N:Prop} (hs:∀ t v u,s t=v→V.map (Wa tk) v=u→(N→v=u)→s1 t=u) (h:s t=v) (hm:V.map (Wa tk) v=v):s1 t=v:=hs t v v h hm (fun _=>rfl)
theorem Z9 {s1:Nat→V} {tk:Tok} {t:Nat} {v u:V} {N:Prop} (hs:∀ t v u,s t=v→V.map (Wa tk) v=u→(N→v=u)→s1 t=u) (h:s t=v) (hm:V.map (Wa tk) v=u) (hn:N→v=u):s1 t=u:=hs t v u h hm hn
theorem zF {f:Tok→Option Tok} {vs us:List V} (h:V.maps f vs=us):V.map f (.agg vs) = .agg us:=by simp only [V.map,h]
theorem zm {f:Tok→Option Tok}:V.maps f []=[]:=rfl
theorem ze {f:Tok→Option Tok} {v u:V} {vs us:List V} (h:V.map f v=u) (hs:V.maps f vs=us):V.maps f (v :: vs)=u :: us:=by simp only [V.maps,h,hs]
theorem zi {f:Tok→Option Tok} {r r' i:Nat} {q:List Nat} {c u:V} (hf:f (.bx r)=some (.bx r')) (h:V.map f c=u):V.map f (.ref (.bx r) i q c) = .ref (.bx r') i q u:=by simp only [V.map,hf,h]
def wJ {α:Type} (xs ys:List α):Option (List α):=if xs.length + ys.length≤2 ^ 40 then some (xs++ys) else none
theorem ZB {α:Type} {o:NL α} {ys zs:List α} (h:wJ o.list ys=some zs) (hn:(match o with | .of _=>True | .nil=>ys≠[])):zkq o ys=some (.of zs):=by
 unfold wJ at h
 unfold zkq
 split at h
 · rename_i hl
   rw [if_pos hl]
   simp only [Option.some.injEq] at h;subst h
   cases o with
   | nil=>cases ys with
     | nil=>exact absurd rfl hn
     | cons y ys=>rfl
   | of xs=>cases ys <;> rfl
 · cases h
structure zdB (v r:V):Prop where
 own:∀ p,V.own p 0 v=some []
 ret:V.ret 0 v=r
theorem yz {α:Type} [Enc α] {x:α}:zdB (Enc.enc x) (Enc.enc x):=⟨fun p=>Enc.own0 p x,Enc.ret0 x⟩
theorem wl {α:Type} [Enc α] {t:Tok} {o:NL α}:zdB (zj t o) (Enc.enc o.list):=by
 cases o with
 | nil=>exact ⟨fun p=>rfl,by simp [zj,V.ret,NL.list,Enc.enc,V.erases]⟩
 | of xs=>exact ⟨fun p=>rfl,by simp [zj,V.ret,NL.list,Enc.enc,Yb]⟩
theorem xS {v r:V} (h:zdB v r):fin 0 true v=some r:=by
 simp only [fin,h.own,List.map_nil,List.all_nil,Bool.true_or,Bool.and_true,h.ret]
 simp
theorem zd {tk:Tok} {i:Nat} {q:List Nat} {u:V} {t:Nat} {v v':V} (h:s t=v) (hm:V.mut tk i q u v=v'):X5 tk i q u s t=v':=by
 simp only [X5,h];exact hm
theorem KU (u:V):∀ (vs:List V) (i:Nat),V.setPs vs i [] u=vs.set i u
 | [],_=>by simp [V.setPs]
 | v :: vs,0=>by simp [V.setPs,V.setP]
 | v :: vs,i + 1=>by simp [V.setPs,KU u vs i]
theorem KN {α:Type} [Enc α] (tk:Tok) (i:Nat) (q:List Nat) (u:V):∀ xs:List α,V.muts tk i q u (xs.map Enc.enc)=xs.map Enc.enc
 | []=>rfl
 | x :: xs=>by simp [V.muts,Enc.mut_enc,KN tk i q u xs]
theorem Xh {α:Type} [Enc α] {r:Nat} {p:List Nat} {i:Nat} {u:α} {xs:List α}:V.mut (.at r p) i [] (Enc.enc u) (zj (.at r p) (.of xs))=zj (.at r p) (.of (xs.set i u)):=by
 simp [zj,V.mut,KN,KU,List.map_set]
theorem vm {α:Type} [Enc α] {tk:Tok} {r:Nat} {p:List Nat} {i:Nat} {q:List Nat} {u:V} {o:NL α} (hn:(tk == .at r p)=false) (hl:(tk == .nl)=false):V.mut tk i q u (zj (.at r p) o)=zj (.at r p) o:=by
 simp only [beq_eq_false_iff_ne,ne_eq] at hn hl
 cases o with
 | nil=>simp [zj,V.mut,hl,V.muts]
 | of xs=>simp [zj,V.mut,hn,KN]
theorem yD {tk:Tok} {i:Nat} {q:List Nat} {u:V} {vs us:List V} (h:V.muts tk i q u vs=us):V.mut tk i q u (.agg vs) = .agg us:=by simp only [V.mut,h]
theorem zq {tk:Tok} {i:Nat} {q:List Nat} {u:V} {v w:V} {vs us:List V} (h:V.mut tk i q u v=w) (hs:V.muts tk i q u vs=us):V.muts tk i q u (v :: vs)=w :: us:=by simp only [V.muts,h,hs]
def zdm (k:IntKind) (x y:Int):Option Int:=if y=0 then none else some (k.wrap (x.tdiv y))
def zjI (k:IntKind) (x y:Int):Option Int:=if y=0 then none else some (x.tmod y)
def uB (k:IntKind) (x y:Int):Option Int:=if y < 0 then none else some (k.wrap (x * 2 ^ (min y.toNat k.bits)))
def Wk (k:IntKind) (x y:Int):Option Int:=if y < 0 then none else some (x.fdiv (2 ^ (min y.toNat k.bits)))
theorem ziE {k:IntKind} {x y:O} {a b v:Int} (hx:x.ev s = .int k a) (hy:y.ev s = .int k b) (h:zdm k a b=some v):z8 s (.bin .quo x y)=some (.int k v):=by
 unfold zdm at h
 split at h
 · cases h
 · rename_i h0;simp only [Option.some.injEq] at h;subst h
   simp only [z8,zx hx rfl,zx hy rfl,LF,if_true,YF,if_neg h0]
theorem znm {k:IntKind} {x y:O} {a b v:Int} (hx:x.ev s = .int k a) (hy:y.ev s = .int k b) (h:zjI k a b=some v):z8 s (.bin .rem x y)=some (.int k v):=by
 unfold zjI at h
 split at h
 · cases h
 · rename_i h0;simp only [Option.some.injEq] at h;subst h
   simp only [z8,zx hx rfl,zx hy rfl,LF,if_true,YF,if_neg h0]
theorem vW {k k':IntKind} {x y:O} {a b v:Int} (hx:x.ev s = .int k a) (hy:y.ev s = .int k' b) (h:uB k a b=some v):z8 s (.bin .shl x y)=some (.int k v):=by
 unfold uB at h
 split at h
 · cases h
 · rename_i h0;simp only [Option.some.injEq] at h;subst h
   simp only [z8,zx hx rfl,zx hy rfl,LF,U2,if_neg h0]
theorem YA {k k':IntKind} {x y:O} {a b v:Int} (hx:x.ev s = .int k a) (hy:y.ev s = .int k' b) (h:Wk k a b=some v):z8 s (.bin .shr x y)=some (.int k v):=by
 unfold Wk at h
 split at h
 · cases h
 · rename_i h0;simp only [Option.some.injEq] at h;subst h
   simp only [z8,zx hx rfl,zx hy rfl,LF,U2,if_neg h0]
end
end Go.Zq
namespace Go.Zq
structure S1 (α0:Type) where
 a:α0
instance {α0:Type} [Enc α0]:Enc (S1 α0) where
 enc x:=.agg [Enc.enc x.a]
 dec | .agg [u0]=>match Enc.dec u0 with
       | some x0=>some ⟨x0⟩
       | _=>none
     | _=>none
 shp:=.ag [Enc.shp α0]
 dec_enc x:=by simp [Enc.dec_enc]
 enc_dec v x h:=by
  split at h
  · split at h
    · rename_i h0
      simp only [Option.some.injEq] at h;subst h
      simp [Enc.enc_dec _ _ h0]
    · cases h
  · cases h
 shape_enc x:=by simp [V.shape,V.shapes,Enc.shape_enc]
 erase_enc x:=by simp [V.erase,V.erases,Enc.erase_enc]
 toks_enc x:=by simp [V.toks,V.tokss,Enc.toks_enc]
 map_enc f x:=by simp [V.map,V.maps,Enc.map_enc]
 mem_enc _:=rfl
 own0 p x:=by simp [V.own,V.owns,Enc.own0]
 low0 x:=by simp [V.low,V.lows,Enc.low0]
 ret0 x:=by simp [V.ret,V.rets,Enc.ret0]
 tag0 d p x:=by simp [V.tag,V.tags,Enc.tag0]
 frz_enc K x:=by simp [V.frz,V.frzs,Enc.frz_enc]
 mut_enc t i q u x:=by simp [V.mut,V.muts,Enc.mut_enc]
structure S3 (α0 α1 α2:Type) where
 a:α0
 b:α1
 c:α2
instance {α0 α1 α2:Type} [Enc α0] [Enc α1] [Enc α2]:Enc (S3 α0 α1 α2) where
 enc x:=.agg [Enc.enc x.a,Enc.enc x.b,Enc.enc x.c]
 dec | .agg [u0,u1,u2]=>match Enc.dec u0,Enc.dec u1,Enc.dec u2 with
       | some x0,some x1,some x2=>some ⟨x0,x1,x2⟩
       | _,_,_=>none
     | _=>none
 shp:=.ag [Enc.shp α0,Enc.shp α1,Enc.shp α2]
 dec_enc x:=by simp [Enc.dec_enc]
 enc_dec v x h:=by
  split at h
  · split at h
    · rename_i h0 h1 h2
      simp only [Option.some.injEq] at h;subst h
      simp [Enc.enc_dec _ _ h0,Enc.enc_dec _ _ h1,Enc.enc_dec _ _ h2]
    · cases h
  · cases h
 shape_enc x:=by simp [V.shape,V.shapes,Enc.shape_enc]
 erase_enc x:=by simp [V.erase,V.erases,Enc.erase_enc]
 toks_enc x:=by simp [V.toks,V.tokss,Enc.toks_enc]
 map_enc f x:=by simp [V.map,V.maps,Enc.map_enc]
 mem_enc _:=rfl
 own0 p x:=by simp [V.own,V.owns,Enc.own0]
 low0 x:=by simp [V.low,V.lows,Enc.low0]
 ret0 x:=by simp [V.ret,V.rets,Enc.ret0]
 tag0 d p x:=by simp [V.tag,V.tags,Enc.tag0]
 frz_enc K x:=by simp [V.frz,V.frzs,Enc.frz_enc]
 mut_enc t i q u x:=by simp [V.mut,V.muts,Enc.mut_enc]
structure S4 (α0 α1 α2 α3:Type) where
 a:α0
 b:α1
 c:α2
 d:α3
instance {α0 α1 α2 α3:Type} [Enc α0] [Enc α1] [Enc α2] [Enc α3]:Enc (S4 α0 α1 α2 α3) where
 enc x:=.agg [Enc.enc x.a,Enc.enc x.b,Enc.enc x.c,Enc.enc x.d]
 dec | .agg [u0,u1,u2,u3]=>match Enc.dec u0,Enc.dec u1,Enc.dec u2,Enc.dec u3 with
       | some x0,some x1,some x2,some x3=>some ⟨x0,x1,x2,x3⟩
       | _,_,_,_=>none
     | _=>none
 shp:=.ag [Enc.shp α0,Enc.shp α1,Enc.shp α2,Enc.shp α3]
 dec_enc x:=by simp [Enc.dec_enc]
 enc_dec v x h:=by
  split at h
  · split at h
    · rename_i h0 h1 h2 h3
      simp only [Option.some.injEq] at h;subst h
      simp [Enc.enc_dec _ _ h0,Enc.enc_dec _ _ h1,Enc.enc_dec _ _ h2,Enc.enc_dec _ _ h3]
    · cases h
  · cases h
 shape_enc x:=by simp [V.shape,V.shapes,Enc.shape_enc]
 erase_enc x:=by simp [V.erase,V.erases,Enc.erase_enc]
 toks_enc x:=by simp [V.toks,V.tokss,Enc.toks_enc]
 map_enc f x:=by simp [V.map,V.maps,Enc.map_enc]
 mem_enc _:=rfl
 own0 p x:=by simp [V.own,V.owns,Enc.own0]
 low0 x:=by simp [V.low,V.lows,Enc.low0]
 ret0 x:=by simp [V.ret,V.rets,Enc.ret0]
 tag0 d p x:=by simp [V.tag,V.tags,Enc.tag0]
 frz_enc K x:=by simp [V.frz,V.frzs,Enc.frz_enc]
 mut_enc t i q u x:=by simp [V.mut,V.muts,Enc.mut_enc]
structure S5 (α0 α1 α2 α3 α4:Type) where
 a:α0
 b:α1
 c:α2
 d:α3
 e:α4
instance {α0 α1 α2 α3 α4:Type} [Enc α0] [Enc α1] [Enc α2] [Enc α3] [Enc α4]:Enc (S5 α0 α1 α2 α3 α4) where
 enc x:=.agg [Enc.enc x.a,Enc.enc x.b,Enc.enc x.c,Enc.enc x.d,Enc.enc x.e]
 dec | .agg [u0,u1,u2,u3,u4]=>match Enc.dec u0,Enc.dec u1,Enc.dec u2,Enc.dec u3,Enc.dec u4 with
       | some x0,some x1,some x2,some x3,some x4=>some ⟨x0,x1,x2,x3,x4⟩
       | _,_,_,_,_=>none
     | _=>none
 shp:=.ag [Enc.shp α0,Enc.shp α1,Enc.shp α2,Enc.shp α3,Enc.shp α4]
 dec_enc x:=by simp [Enc.dec_enc]
 enc_dec v x h:=by
  split at h
  · split at h
    · rename_i h0 h1 h2 h3 h4
      simp only [Option.some.injEq] at h;subst h
      simp [Enc.enc_dec _ _ h0,Enc.enc_dec _ _ h1,Enc.enc_dec _ _ h2,Enc.enc_dec _ _ h3,Enc.enc_dec _ _ h4]
    · cases h
  · cases h
 shape_enc x:=by simp [V.shape,V.shapes,Enc.shape_enc]
 erase_enc x:=by simp [V.erase,V.erases,Enc.erase_enc]
 toks_enc x:=by simp [V.toks,V.tokss,Enc.toks_enc]
 map_enc f x:=by simp [V.map,V.maps,Enc.map_enc]
 mem_enc _:=rfl
 own0 p x:=by simp [V.own,V.owns,Enc.own0]
 low0 x:=by simp [V.low,V.lows,Enc.low0]
 ret0 x:=by simp [V.ret,V.rets,Enc.ret0]
 tag0 d p x:=by simp [V.tag,V.tags,Enc.tag0]
 frz_enc K x:=by simp [V.frz,V.frzs,Enc.frz_enc]
 mut_enc t i q u x:=by simp [V.mut,V.muts,Enc.mut_enc]
structure S6 (α0 α1 α2 α3 α4 α5:Type) where
 a:α0
 b:α1
 c:α2
 d:α3
 e:α4
 f:α5
instance {α0 α1 α2 α3 α4 α5:Type} [Enc α0] [Enc α1] [Enc α2] [Enc α3] [Enc α4] [Enc α5]:Enc (S6 α0 α1 α2 α3 α4 α5) where
 enc x:=.agg [Enc.enc x.a,Enc.enc x.b,Enc.enc x.c,Enc.enc x.d,Enc.enc x.e,Enc.enc x.f]
 dec | .agg [u0,u1,u2,u3,u4,u5]=>match Enc.dec u0,Enc.dec u1,Enc.dec u2,Enc.dec u3,Enc.dec u4,Enc.dec u5 with
       | some x0,some x1,some x2,some x3,some x4,some x5=>some ⟨x0,x1,x2,x3,x4,x5⟩
       | _,_,_,_,_,_=>none
     | _=>none
 shp:=.ag [Enc.shp α0,Enc.shp α1,Enc.shp α2,Enc.shp α3,Enc.shp α4,Enc.shp α5]
 dec_enc x:=by simp [Enc.dec_enc]
 enc_dec v x h:=by
  split at h
  · split at h
    · rename_i h0 h1 h2 h3 h4 h5
      simp only [Option.some.injEq] at h;subst h
      simp [Enc.enc_dec _ _ h0,Enc.enc_dec _ _ h1,Enc.enc_dec _ _ h2,Enc.enc_dec _ _ h3,Enc.enc_dec _ _ h4,Enc.enc_dec _ _ h5]
    · cases h
  · cases h
 shape_enc x:=by simp [V.shape,V.shapes,Enc.shape_enc]
 erase_enc x:=by simp [V.erase,V.erases,Enc.erase_enc]
 toks_enc x:=by simp [V.toks,V.tokss,Enc.toks_enc]
 map_enc f x:=by simp [V.map,V.maps,Enc.map_enc]
 mem_enc _:=rfl
 own0 p x:=by simp [V.own,V.owns,Enc.own0]
 low0 x:=by simp [V.low,V.lows,Enc.low0]
 ret0 x:=by simp [V.ret,V.rets,Enc.ret0]
 tag0 d p x:=by simp [V.tag,V.tags,Enc.tag0]
 frz_enc K x:=by simp [V.frz,V.frzs,Enc.frz_enc]
 mut_enc t i q u x:=by simp [V.mut,V.muts,Enc.mut_enc]
structure Kd (k:IntKind) where
 v:Int
instance {k:IntKind}:Enc (Kd k) where
 enc x:=.int k x.v
 dec | .int k' x=>if k'=k then some ⟨x⟩ else none
     | _=>none
 shp:=.s
 dec_enc _:=by simp
 enc_dec v x h:=by
  split at h
  · split at h
    · rename_i e;simp only [Option.some.injEq] at h;subst h;subst e;rfl
    · cases h
  · cases h
 shape_enc _:=rfl
 erase_enc _:=rfl
 toks_enc _:=rfl
 map_enc _ _:=rfl
 mem_enc _:=rfl
 own0 _ _:=rfl
 low0 _:=rfl
 ret0 _:=rfl
 tag0 _ _ _:=rfl
 frz_enc _ _:=rfl
 mut_enc _ _ _ _ _:=rfl
instance {k:IntKind}:Ret (Kd k):=⟨Enc.enc⟩
end Go.Zq
namespace Go.Zq
section
variable {s:Nat→V}
theorem zH {tk:Tok} {i:Nat} {q:List Nat} {u:V} {t':Tok} {i':Nat} {q':List Nat} {c c':V} (ht:(tk == t')=false) (hs:(t' == .sh)=false) (hc:V.mut tk i q u c=c'):V.mut tk i q u (.ref t' i' q' c) = .ref t' i' q' c':=by
 have h1:tk≠t':=by simpa using ht
 cases t' with
 | sh=>simp at hs
 | _=>simp only [V.mut,hc];rw [if_neg (by rintro ⟨h,_⟩;exact h1 h)]
end
end Go.Zq
namespace Go.Zq
section
variable {s:Nat→V} {P:Program}
theorem zf {t:Nat} {v:V} (h:s t=v):Wy P s (.tmp t)=some v:=by simp only [Wy,h]
theorem uI {a t i:Nat} {tk:Tok} {q:List Nat} {c:V} (h:s a = .ref tk i q c) (hc:(match shT P 6 t with | some h=>c.shape.beq h && (Lv P t == some h.isAg && vg P t == some h.size) | none=>false)=true) :
    Wy P s (.cell a t)=some c:=by
 simp only [Wy,h]
 split at hc
 · rename_i h2;rw [h2];simp only [hc,if_true]
 · cases hc
theorem rrA {x:ResultVar} {m:Nat} {al:Bool} {v r:V} (h:Wy P s x=some v) (hf:fin m al v=some r):RR P [x] m al r s:=by
 simp only [RR,MF,h,Option.bind_some];exact hf
theorem rrB {x y:ResultVar} {m:Nat} {al:Bool} {u v r:V} (h:Wy P s x=some u) (h2:Wy P s y=some v) (hf:fin m al (.tup [u,v])=some r):RR P [x,y] m al r s:=by
 simp only [RR,MF,h,h2,Option.bind_some];exact hf
theorem rrC {x y z:ResultVar} {m:Nat} {al:Bool} {u v w r:V} (h:Wy P s x=some u) (h2:Wy P s y=some v) (h3:Wy P s z=some w) (hf:fin m al (.tup [u,v,w])=some r):RR P [x,y,z] m al r s:=by
 simp only [RR,MF,h,h2,h3,Option.bind_some];exact hf
structure zhp (vs rs:List V):Prop where
 own:∀ p i,V.owns p 0 i vs=some []
 ret:V.rets 0 vs=rs
end
theorem xA:zhp [] []:=⟨fun _ _=>rfl,rfl⟩
theorem zP {v r:V} {vs rs:List V} (h:zdB v r) (hs:zhp vs rs):zhp (v :: vs) (r :: rs):=⟨fun p i=>by simp [V.owns,h.own,hs.own],by simp [V.rets,h.ret,hs.ret]⟩
theorem zkn {vs rs:List V} (h:zhp vs rs):zdB (.agg vs) (.agg rs):=⟨fun p=>by simp [V.own,h.own],by simp [V.ret,h.ret]⟩
theorem wH {vs rs:List V} (h:zhp vs rs):zdB (.tup vs) (.tup rs):=⟨fun p=>by simp [V.own,h.own],by simp [V.ret,h.ret]⟩
def zcF (s:Nat→V) (d:Nat) (o:Option O) (n:Int):Prop:=match o with
 | none=>n=d
 | some x=>∃ k,x.ev s = .int k n
theorem WX {s:Nat→V} {d:Nat}:zcF s d none d:=rfl
theorem WJ {s:Nat→V} {d:Nat} {x:O} {k:IntKind} {n:Int} (h:x.ev s = .int k n):zcF s d (some x) n:=⟨k,h⟩
theorem Kg {s:Nat→V} {d:Nat} {o:Option O} {n:Int} (h:zcF s d o n) (h0:0≤n):ZO s d o=some n.toNat:=by
 cases o with
 | none=>simp only [zcF] at h;subst h;simp [ZO]
 | some x=>obtain ⟨k,h⟩:=h;simp [ZO,zx h rfl,h0]
theorem Na {α:Type} [Enc α] {s:Nat→V} {x:O} {lo hi:Option O} {e:Nat} {xs ys:List α} {a b:Int} (hx:x.ev s = .sl .sh (Enc.shp α) 0 (xs.map Enc.enc)) (hl:zcF s 0 lo a) (hh:zcF s xs.length hi b) (h:sub xs a b=some ys)
    (he:(Enc.shp α).size=e):z8 s (.slice x lo hi e)=some (.sl .sh (Enc.shp α) 0 (ys.map Enc.enc)):=by
 unfold sub at h
 split at h
 · rename_i hb
   simp only [Option.some.injEq] at h;subst h
   simp only [z8,zx hx rfl,Kg hl hb.1,List.length_map]
   rw [Kg hh (by omega)]
   simp only [he]
   rw [if_pos (by simp [Tok.isBx];omega)]
   simp [List.map_take,List.map_drop]
 · cases h
end Go.Zq
namespace Go.Zq
open Go.RowKit Go.ChangeShapes Go.Deep
def zcS (P:Program) (t:TypeId) (α:Type) [Enc α] (ok:α→Prop):Prop:=
 P.cellsOf t=(Enc.shp α).size ∧
 ∀ {H:Type} (en:TypeId×Value→H) (W:World) (fuel:Nat) (cs:List Value) (x:DataW H×List MemPlace),DataW.trod en P W 0 (fun _=>true) true fuel t cs=some x →
  ∃ a:α,ok a∧∀ (S:Nat→Prop) (τ:Tok→Blk),(∀ b,b < W.heap.size→S b)→zt W S τ (Enc.enc a) cs
variable {P:Program} {t:TypeId}
theorem Ko {α:Type} [Enc α] {w:World} {S:Nat→Prop} {τ:Tok→Blk}:∀ (xs:List α) (L:List Value),L.length=xs.length * (Enc.shp α).size →
    (∀ i a,xs[i]?=some a→zt w S τ (Enc.enc a) ((L.drop (i * (Enc.shp α).size)).take (Enc.shp α).size))→zZ w S τ (xs.map Enc.enc) L
 | [],L,hl,_=>by simp only [List.map_nil,zZ];simpa using hl
 | x :: xs,L,hl,h=>by
   simp only [List.map_cons,zZ,Enc.shape_enc]
   refine ⟨by simpa using h 0 x rfl,Ko xs _ ?_ ?_⟩
   · rw [List.length_drop,hl,List.length_cons,Nat.succ_mul];omega
   · intro i a ha
     have:=h (i + 1) a (by simpa using ha)
     rw [List.drop_drop]
     rwa [show (Enc.shp α).size + i * (Enc.shp α).size=(i + 1) * (Enc.shp α).size by rw [Nat.succ_mul];omega]
theorem zdn {α:Type} [Enc α] {oa:α→Prop} {e:TypeId} (ht:P.underlying t=some (.slice e)) (h0:zcS P e α oa) (hc:P.cellsOf t=1) (hp:0 < (Enc.shp α).size) :
    zcS P t (List α) (fun xs=>xs.length≤maxLen∧∀ x∈xs,oa x):=by
 refine ⟨hc,?_⟩
 intro H en W fuel cs x h
 rcases open_slice ht h with ⟨rfl,_⟩ | ⟨a,len,cap,m,n,D,Pl,rfl,_,hl,hm,hmm,_,hx⟩
 · exact ⟨[],⟨Nat.zero_le _,by simp⟩,fun S τ _=>by simp only [Enc.enc,zt,List.map_nil];exact ⟨_,0,rfl,Nat.zero_le _,by simp,fun _=>rfl,.inl rfl⟩⟩
 · simp only [if_true] at hmm
   subst hmm
   rw [h0.1] at hx
   have hx2:∀ i,i < m→∃ cs',W.cells? 0 (a.add (i * (Enc.shp α).size)) (Enc.shp α).size=some cs'∧∃ y:α,oa y∧∀ (S:Nat→Prop) (τ:Tok→Blk),(∀ b,b < W.heap.size→S b)→zt W S τ (Enc.enc y) cs':=by
    intro i hi
    obtain ⟨cs',h1,h2⟩:=hx i hi
    exact ⟨cs',h1,h0.2 en W n _ _ h2⟩
   by_cases hcap:m=0
   · subst hcap
     obtain rfl:len=0:=by omega
     exact ⟨[],⟨Nat.zero_le _,by simp⟩,fun S τ _=>by simp only [Enc.enc,zt,List.map_nil];exact ⟨_,0,rfl,Nat.zero_le _,by simp,fun _=>rfl,.inl rfl⟩⟩
   obtain ⟨cs0,hc0,_⟩:=hx2 0 (by omega)
   simp only [Nat.zero_mul] at hc0
   obtain ⟨_,hl0,hg0⟩:=World.cells?_some hc0
   have hz:=hg0 0 hp
   have hz1:cs0[0]?=some (cs0[0]'(by omega)):=List.getElem?_eq_getElem (by omega)
   rw [hz1] at hz
   have ha0:(a.add 0).add 0=a:=by simp [Addr.add]
   rw [ha0] at hz
   unfold World.cell? at hz
   split at hz
   · rename_i arr ty fz hheap
     split at hz
     · cases hz
     · rename_i hspot
       have hsp:a.spot=none:=by cases h:a.spot <;> simp_all
       have hadd:∀ k,a.add k=⟨a.block,a.off + k,none⟩:=by
        intro k;unfold Addr.add;split
        · rename_i hk;subst hk;cases a;simp_all
        · rfl
       have hcell:∀ k,W.cell? (a.add k)=arr[a.off + k]?:=by
        intro k;rw [hadd];simp [World.cell?,hheap]
       have hget:∀ i,i < m→∀ cs',W.cells? 0 (a.add (i * (Enc.shp α).size)) (Enc.shp α).size=some cs'→cs'.length=(Enc.shp α).size∧∀ j,j < (Enc.shp α).size→arr[a.off + (i * (Enc.shp α).size + j)]?=cs'[j]?:=by
        intro i hi cs' hcs
        obtain ⟨_,h1,h2⟩:=World.cells?_some hcs
        refine ⟨h1,fun j hj=>?_⟩
        rw [← h2 j hj,add_add,hcell]
       have hsize:a.off + m * (Enc.shp α).size≤arr.size:=by
        obtain ⟨cs',h1,_⟩:=hx2 (m - 1) (by omega)
        obtain ⟨h2,h3⟩:=hget (m - 1) (by omega) cs' h1
        have h4:=h3 ((Enc.shp α).size - 1) (by omega)
        rw [List.getElem?_eq_getElem (by omega)] at h4
        obtain ⟨h5,_⟩:=Array.getElem?_eq_some_iff.1 h4
        have:m * (Enc.shp α).size=(m - 1) * (Enc.shp α).size + (Enc.shp α).size:=by
         rw [← Nat.succ_mul];congr 1;omega
        omega
       have hch:∀ i,i < m→∃ y:α,oa y∧∀ (S:Nat→Prop) (τ:Tok→Blk),(∀ b,b < W.heap.size→S b)→zt W S τ (Enc.enc y) ((arr.toList.drop (a.off + i * (Enc.shp α).size)).take (Enc.shp α).size):=by
        intro i hi
        obtain ⟨cs',h1,y,h2,h3⟩:=hx2 i hi
        obtain ⟨h4,h5⟩:=hget i hi cs' h1
        have:((arr.toList.drop (a.off + i * (Enc.shp α).size)).take (Enc.shp α).size)=cs':=by
         apply List.ext_getElem?
         intro j
         by_cases hj:j < (Enc.shp α).size
         · rw [List.getElem?_take_of_lt hj,List.getElem?_drop,← h5 j hj];simp [Nat.add_assoc]
         · rw [List.getElem?_eq_none (by simp;omega),List.getElem?_eq_none (by omega)]
        exact ⟨y,h2,by rw [this];exact h3⟩
       have hb:a.block < W.heap.size:=by
        obtain ⟨h5,_⟩:=Array.getElem?_eq_some_iff.1 hheap;exact h5
       have hall:∀ k,k≤m→∃ ys:List α,ys.length=k∧(∀ y∈ys,oa y)∧∀ (S:Nat→Prop) (τ:Tok→Blk),(∀ b,b < W.heap.size→S b)→∀ i y,ys[i]?=some y→zt W S τ (Enc.enc y) ((arr.toList.drop (a.off + i * (Enc.shp α).size)).take (Enc.shp α).size):=by
        intro k
        induction k with
        | zero=>intro _;exact ⟨[],rfl,by simp,by simp⟩
        | succ k ih=>
          intro hk
          obtain ⟨ys,h1,h2,h3⟩:=ih (by omega)
          obtain ⟨y,h4,h5⟩:=hch k (by omega)
          refine ⟨ys++[y],by simp [h1],?_,?_⟩
          · intro z hz;rcases List.mem_append.1 hz with hz | hz
            · exact h2 z hz
            · simp at hz;subst hz;exact h4
          · intro S τ hS i z hz
            by_cases hi:i < k
            · rw [List.getElem?_append_left (by omega)] at hz;exact h3 S τ hS i z hz
            · rw [List.getElem?_append_right (by omega)] at hz
              have:i=k:=by
               have:=(List.getElem?_eq_some_iff.1 hz).1;simp at this;omega
              subst this
              simp [h1] at hz;subst hz;exact h5 S τ hS
       obtain ⟨ys,h1,h2,h3⟩:=hall len hl
       refine ⟨ys,⟨by omega,h2⟩,fun S τ hS=>?_⟩
       have hh:=h3 S τ hS
       simp only [Enc.enc,zt,List.length_map,h1]
       refine ⟨some a,m,rfl,hl,?_,fun _=>xG _,.inr ⟨a.block,a.off,arr,ty,fz,?_,hheap,hS _ hb,hsize,?_⟩⟩
       · intro v hv;obtain ⟨y,_,rfl⟩:=List.mem_map.1 hv;exact Enc.shape_enc y
       · cases a;simp_all
       · have hmul:len * (Enc.shp α).size≤m * (Enc.shp α).size:=Nat.mul_le_mul_right _ hl
         refine Ko ys _ ?_ ?_
         · simp [h1];omega
         · intro i y hy
           have hi:i < len:=by have:=(List.getElem?_eq_some_iff.1 hy).1;omega
           have h7:=hh i y hy
           have hmi:(i + 1) * (Enc.shp α).size≤len * (Enc.shp α).size:=Nat.mul_le_mul_right _ hi
           rw [Nat.succ_mul] at hmi
           rw [List.drop_take,List.take_take,List.drop_drop,Nat.min_eq_left (by omega)]
           exact h7
   · cases hz
end Go.Zq
namespace Go.Zq
open Go.RowKit Go.ChangeShapes Go.WideShapes Go.ChangeAt Go.Deep
section
variable {H:Type} {en:TypeId×Value→H} {P:Program} {W W':World}
theorem JB (hl:laidOutB P=true) (hb:Below W.heap.size W W'):∀ (ts:List TypeId) (vs:List Value) (ds:List (DataW H)) (p:List MemPlace),(∀ t∈ts,P.readableRec t=true∧t < P.types.size) →
    DataW.TrodAll en P W 0 (fun _=>true) true ts vs ds p→DataW.TrodAll en P W' 0 (fun b=>decide (b < W.heap.size)) true ts vs ds p
 | [],[],[],p,_,h=>h
 | t :: ts,v :: vs,d :: ds,p,hts,h=>by
   obtain ⟨p1,q,h1,h2,rfl⟩:=h
   have ht:=hts t (by simp)
   refine ⟨p1,q,Below.trod hl ht.1 ht.2 h1 hb ?_,JB hl hb ts vs ds q (fun t ht=>hts t (by simp [ht])) h2,rfl⟩
   obtain ⟨m,hm⟩:=h1
   exact DataW.trod_lt m _ _ _ hm
 | [],_ :: _,_,_,_,h=>h.elim
 | [],[],_ :: _,_,_,h=>h.elim
 | _ :: _,[],_,_,_,h=>h.elim
 | _ :: _,_ :: _,[],_,_,h=>h.elim
theorem Lo:∀ (ts:List TypeId) (vs:List Value) (ds:List (DataW H)) (p:List MemPlace) (base:Nat) (sp:Nat→Bool) (hd:Bool),DataW.TrodAll en P W base sp hd ts vs ds p→ds.length=ts.length
 | [],[],[],p,_,_,_,h=>rfl
 | t :: ts,v :: vs,d :: ds,p,_,_,_,h=>by
   obtain ⟨p1,q,h1,h2,rfl⟩:=h
   simp [Lo ts vs ds q _ _ _ h2]
 | [],_ :: _,_,_,_,_,_,h=>h.elim
 | [],[],_ :: _,_,_,_,_,h=>h.elim
 | _ :: _,[],_,_,_,_,_,h=>h.elim
 | _ :: _,_ :: _,[],_,_,_,_,h=>h.elim
def LW (P:Program) (W:World) (us:List V) (vs:List Value):Prop:=V.tokss us=[]∧∀ (S:Nat→Prop) (τ:Tok→Blk),(∀ b,b < W.heap.size→S b)→z6 W S τ us vs
theorem zjD:LW P W [] []:=⟨rfl,fun _ _ _=>by simp [z6]⟩
theorem zgm {α:Type} [Enc α] {a:α} {v:Value} {us:List V} {vs:List Value} (h:∀ (S:Nat→Prop) (τ:Tok→Blk),(∀ b,b < W.heap.size→S b)→zu W S τ (Enc.enc a) v) (hs:LW P W us vs):LW P W (Enc.enc a :: us) (v :: vs):=
 ⟨by simp [V.tokss,Enc.toks_enc,hs.1],fun S τ hS=>by simp only [z6];exact ⟨v,vs,rfl,h S τ hS,hs.2 S τ hS⟩⟩
def zlY:Option TypeDesc→Bool
 | some (.slice _) | some (.int _) | some .bool=>true
 | _=>false
theorem zkT {α:Type} [Enc α] {ok:α→Prop} {t:TypeId} {v:Value} {d:DataW H} {p:List MemPlace} {base:Nat} (ho:zcS P t α ok) (hn:∀ a:α,(Enc.enc a).isAgg=false) (hu:zlY (P.underlying t)=true)
    (hv:Value.okWide P W .any base t v) (hd:DataW.Trod en P W 0 (fun _=>true) true t v d p):∃ a:α,ok a∧∀ (S:Nat→Prop) (τ:Tok→Blk),(∀ b,b < W.heap.size→S b)→zu W S τ (Enc.enc a) v:=by
 obtain ⟨m,hm⟩:=hd
 obtain ⟨a,ha,hr⟩:=ho.2 en W m _ _ hm
 refine ⟨a,ha,fun S τ hS=>?_⟩
 have h1:=hr S τ hS
 have hc:v.cells.toList=[v]:=by
  unfold zlY at hu
  split at hu
  · rename_i e he;obtain ⟨_,_,_,rfl⟩:=okWide_slice he hv;rfl
  · rename_i e he;obtain ⟨_,rfl⟩:=okWide_int he hv;rfl
  · rename_i he;obtain ⟨_,rfl⟩:=okWide_bool he hv;rfl
  · cases hu
 rw [hc] at h1
 have h2:=hn a
 generalize Enc.enc a=u at h1 h2
 cases u <;> first | (simp only [zt] at h1;exact h1.elim) | (simp only [zu];exact h1) | (simp [V.isAgg] at h2;done) | (simp only [zt] at h1;simp only [zu];simpa using h1) | trivial
theorem zhI {C:Checked} {os:Os} {s:ChangeSpec} {f:FuncId} {fn:Func} {conds:List PathCond} {tb:TypeId} (own:ownKnob C.prog.godebug=none) (started:os.Started) (noInit:C.prog.inits.idxOf? f=none) (hfn:C.prog.funcs[f]?=some fn)
    (witness:∃ (w:World) (tape:Tape) (i:Input),w.os=os∧(w.forCall tape i).Shaped C.prog∧i.vars=[]∧Input.okWide C.prog (w.forCall tape i) .any w.heap.size f i ∧
      s.pre6 en C.prog fn conds false (w.forCall tape i).memory i.args∧({}:Assume).holds C.prog (lone (Frame.enter C.prog f i.args .normal) [] (w.forCall tape i)))
    (hvars:s.vars=[]) (hspec:∀ ds:List (DataW H),ds.length=fn.params.size→(s.fn H ds).results=[.lit (.bool true)]∧(s.fn H ds).args=ds∧(s.fn H ds).vars=[])
    (hres:fn.resultTypes=#[tb]) (hb:C.prog.underlying tb=some .bool) (hl:laidOutB C.prog=true) (hts:fn.params.toList.all (fun t=>C.prog.readableRec t && decide (t < C.prog.types.size))=true)
    (hrun:∀ (W:World) (args:Array Value) (ds:List (DataW H)) (p:List MemPlace) (base:Nat),(∀ (j:Nat) t v,fn.params[j]?=some t→args[j]?=some v→Value.okWide C.prog W .any base t v) →
      DataW.TrodAll en C.prog W 0 (fun _=>true) true fn.params.toList args.toList ds p→∃ us,LW C.prog W us args.toList∧Yx C.prog f 0 false us (.bool true)) :
    ReturnsInHanded {} C os f .any (s.pre6 en C.prog fn conds false) (s.post en C.prog fn false true false false):=by
 refine returnsInHanded_of_change_sized (C:=C) own started noInit hfn witness ?_
 intro W base args ds gs before hval hW hcnd hsz _
 have hW':=hW
 obtain ⟨p,q,hA,hV,rfl,hfz,hnd⟩:=hW
 rw [hvars] at hV
 obtain ⟨rfl,rfl⟩:=trodVars_none hV
 obtain ⟨us,hus,hcon⟩:=hrun W args ds p base hval hA
 refine (hcon 0 W (fun b=>b < W.heap.size) (fun _=>⟨0,0,.s⟩) args (fun b hb=>hb) (hus.2 _ _ fun b hb=>hb) hus.1).mono fun e W' he=>?_
 obtain ⟨v,τ',rfl,bel,_,_,hrel⟩:=he
 simp only [V.tag,zu] at hrel
 subst hrel
 have hs:=hspec ds (by have:=Lo _ _ _ _ _ _ _ hA;simpa using this)
 have hds:ds++[]=ds:=List.append_nil ds
 refine ⟨.bool true,rfl,ds,[],_,[],p,[],hW',?_,?_,?_,bel.frame _,fun h=>by cases h⟩
 · rw [hds,hs.1,hres]
   exact ⟨[],[],⟨1,by simp [DataW.trod,hb,Value.cells]⟩,rfl,rfl⟩
 · rw [hds,hs.2.1]
   refine JB hl bel _ _ _ _ ?_ hA
   intro t ht
   have:=List.all_eq_true.1 hts t ht
   simpa using this
 · rw [hds,hs.2.2,hvars];rfl
end
end Go.Zq
namespace Go.Zq
section
variable {K:List Tok}
theorem yi {α:Type} [Enc α] {r:Nat} {p:List Nat} {xs:List α}:(zj (.at r p) (.of xs)).toks=[.at r p]:=by
 simp only [zj,V.toks,xG]
 split <;> rfl
theorem Xi {α:Type} [Enc α] {r:Nat} {p:List Nat} {xs:List α}:V.frz [.at r p] (zj (.at r p) (.of xs))=Enc.enc xs:=by
 simp [zj,V.frz,xG,Yb,Enc.enc]
theorem Qj {α:Type} [Enc α]:∀ xs:List α,V.frzs K (xs.map Enc.enc)=xs.map Enc.enc
 | []=>rfl
 | x :: xs=>by simp [V.frzs,Enc.frz_enc,Qj xs]
theorem XJ {α:Type} [Enc α] {t:Tok} {o:NL α} (hn:K.contains t=false) (hl:K.contains .nl=false):V.frz K (zj t o)=zj t o:=by
 cases o with
 | nil=>simp only [zj,V.frz,hl,V.frzs];simp
 | of xs=>cases t <;> simp only [zj,V.frz,hn,Qj] <;> simp
theorem Zx {vs us:List V} (h:V.frzs K vs=us):V.frz K (.agg vs) = .agg us:=by simp only [V.frz,h]
theorem yC {v u:V} {vs us:List V} (h:V.frz K v=u) (hs:V.frzs K vs=us):V.frzs K (v :: vs)=u :: us:=by simp only [V.frzs,h,hs]
theorem z9 {t:Tok} {i:Nat} {q:List Nat} {c u:V} (hn:K.contains t=false) (h:V.frz K c=u) (hs:(t == .sh)=false):V.frz K (.ref t i q c) = .ref t i q u:=by
 cases t with
 | sh=>simp at hs
 | _=>simp only [V.frz,hn,h];simp
end
end Go.Zq
namespace Go.Zq
section
variable {D:Den} {σ:Sig} {s:Nat→V} {K:(Nat→V)→Prop} {is:List I}
theorem zbd {d:Nat} {z:V} {len:Nat} {ps:List (Nat×Nat×O)} (L:List (Nat×V)) (vs:List V) (hs:zk L s) (h:xB (Kw L) ps (List.replicate len z)=some vs)
    (hr:((ps.flatMap fun p=>p.2.2.rds).all fun k=>L.any fun x=>x.1 == k)=true) (hg:s d = .gone)
    (H:goK D σ is (upd s d (.lin (.sl (.at d []) z.shape 0 vs))) K):goK D σ (⟨some d,none,true,.lit z len ps⟩ :: is) s K:=by
 have h1:xB s ps (List.replicate len z)=some vs:=by
  rw [vZ (s2:=Kw L) fun k hk=>Ka L s hs k (List.all_eq_true.1 hr k hk)];exact h
 simp only [goK,xK,yk,h1,hg]
 simp only [if_true]
 exact H
theorem Kz {α:Type} [Enc α] {d r:Nat} {p:List Nat} {l:Bool} {g:Sh} {xs ys zs:List α} {y:O} {t2:Tok} {lo2:Nat} (hx:s r = .lin (zj (.at r p) (.of xs))) (hy:y.ev s = .sl t2 (Enc.shp α) lo2 (ys.map Enc.enc))
    (hgg:g=Enc.shp α) (hg:s d = .gone) (hd:(d == r)=false) (ha:wJ xs ys=some zs)
    (H:goK D σ is (upd (upd s r .dead) d (if l then .lin (zj (.at d []) (.of zs)) else zj (.at d []) (.of zs))) K):goK D σ (⟨some d,none,l,.appS g (.t r) y⟩ :: is) s K:=by
 subst hgg
 unfold wJ at ha
 split at ha
 · rename_i hlen
   simp only [Option.some.injEq] at ha;subst ha
   have hsp:ZA s (.t r)=some (upd s r .dead,.sl (.at r p) (Enc.shp α) 0 (xs.map Enc.enc)):=by
    simp only [ZA];rw [hx];simp only [zj,xG,List.isEmpty_nil,Bool.and_true,decide_true,if_true]
   have hgd:upd s r .dead d = .gone:=by
    rw [zS _ _ (by simpa using hd)];exact hg
   simp only [goK,xK,yk,hsp,zx hy rfl,hgd,Sh.beq_refl,xG,List.isEmpty_nil,Bool.or_true,Bool.true_and]
   rw [if_pos (by simpa using hlen)]
   have e:WW d (.at r p) (Enc.shp α) (xs.map Enc.enc) (ys.map Enc.enc)=zj (.at d []) (.of (xs++ys)):=by
    simp [WW,zj]
   rw [e]
   cases l with
   | true=>simpa using H
   | false=>simpa using H
 · cases ha
theorem ZL {α:Type} [Enc α] {t:Tok} {o:NL α}:(zj t o).ok=true:=by cases o <;> rfl
theorem Wm {x:O} {v:V} (h:x.ev s=v) (hk:v.ok=true):z8 s (.mov x)=some v:=by simp only [z8,zx h hk]
theorem L0 {α:Type} [Enc α] {t:Tok} {o:NL α}:(zj t o).shape.beq .p=true:=by cases o <;> rfl
theorem WT {x:O} {t:Tok} {i:Nat} {q:List Nat} {c:V} {g:Sh} (h:x.ev s = .ref t i q c) (hc:c.shape.beq g=true):z8 s (.load g x)=some c:=by simp only [z8,zx h rfl,hc,if_true]
end
end Go.Zq
namespace Go.Zq
class Arg (α:Type) where
 arg:α→V
 un:V→Option α
 un_arg:∀ x,un (arg x)=some x
 arg_un:∀ v x,un v=some x→arg x=v
instance {α:Type} [Enc α]:Arg α:=⟨Enc.enc,Enc.dec,Enc.dec_enc,Enc.enc_dec⟩
structure Rf (α:Type) where
 v:α
instance {α:Type} [Arg α]:Arg (Rf α) where
 arg x:=.ref .sh 0 [] (Arg.arg x.v)
 un
  | .ref .sh 0 [] u=>(Arg.un u).map Rf.mk
  | _=>none
 un_arg x:=by simp [Arg.un_arg]
 arg_un v x h:=by
  split at h
  · simp only [Option.map_eq_some_iff] at h
    obtain ⟨y,h1,rfl⟩:=h
    simp [Arg.arg_un _ _ h1]
  · cases h
class Yu (α:Type) where
 args:α→List V
 uns:List V→Option α
 uns_args:∀ x,uns (args x)=some x
 args_uns:∀ v x,uns v=some x→args x=v
instance:Yu Unit where
 args _:=[]
 uns
  | []=>some ()
  | _=>none
 uns_args _:=rfl
 args_uns v x h:=by cases v <;> simp_all
instance {α β:Type} [Arg α] [Yu β]:Yu (α×β) where
 args x:=Arg.arg x.1 :: Yu.args x.2
 uns
  | v :: vs=>(Arg.un v).bind fun x=>(Yu.uns vs).map fun y=>(x,y)
  | []=>none
 uns_args x:=by simp [Arg.un_arg,Yu.uns_args]
 args_uns v x h:=by
  split at h
  · simp only [Option.bind_eq_some_iff,Option.map_eq_some_iff] at h
    obtain ⟨y,h1,z,h2,rfl⟩:=h
    simp [Arg.arg_un _ _ h1,Yu.args_uns _ _ h2]
  · cases h
structure Cl (g:Nat) (α β:Type) where
 fs:α
 env:β
instance {g:Nat} {α β:Type} [Yu α] [Yu β]:Arg (Cl g α β) where
 arg x:=.fn g (Yu.args x.fs) (Yu.args x.env)
 un
  | .fn g' us vs=>if g'=g then (Yu.uns us).bind fun x=>(Yu.uns vs).map fun y=>⟨x,y⟩ else none
  | _=>none
 un_arg x:=by simp [Yu.uns_args]
 arg_un v x h:=by
  split at h
  · split at h
    · rename_i e
      simp only [Option.bind_eq_some_iff,Option.map_eq_some_iff] at h
      obtain ⟨y,h1,z,h2,rfl⟩:=h
      simp [Yu.args_uns _ _ h1,Yu.args_uns _ _ h2,e]
    · cases h
  · cases h
def da {α γ:Type} [Yu α] (f:α→Option γ) (t:γ→V) (args:List V):Option V:=(Yu.uns args).bind fun x=>(f x).map t
theorem zia {α γ:Type} [Yu α] {f:α→Option γ} {t:γ→V} (x:α) {r:γ} (h:f x=some r):da f t (Yu.args x)=some (t r):=by simp [da,Yu.uns_args,h]
theorem Wc {α γ:Type} [Yu α] {f:α→Option γ} {t:γ→V} {args:List V} {r:V} (h:da f t args=some r):∃ x y,args=Yu.args x∧f x=some y∧r=t y:=by
 simp only [da,Option.bind_eq_some_iff,Option.map_eq_some_iff] at h
 obtain ⟨x,h1,y,h2,rfl⟩:=h
 exact ⟨x,y,(Yu.args_uns _ _ h1).symm,h2,rfl⟩
def zrw:List (Nat×Nat)→List V→Bool
 | [],_=>true
 | (i,g) :: L,args=>(match args[i]? with
   | some (.fn g' _ _)=>g' == g
   | _=>false) && zrw L args
section
variable {D:Den} {σ:Sig} {s:Nat→V} {K:(Nat→V)→Prop} {is:List I}
theorem QK {d g m:Nat} {al:Bool} {x:O} {fs env us ws:List V} {as:List O} {r:V} (hx:x.ev s = .fn g fs env) (hfs:V.erases fs=us) (henv:V.erases env=ws) (h1:env.all V.one=true)
    (vs:List V) (hv:yG as s=some (vs,s)) (hD:D g (us++vs++ws)=some r) (hσ:σ g=some (m,al)) (hal:(al && !((yw s as).isEmpty && (V.fn g fs env).toks.isEmpty))=false)
    (hr:r.toks=[]) (ht:(V.tag d [] m r).toks=[]) (hok:(V.tag d [] m r).ok=true) (H:goK D σ is (upd s d (V.tag d [] m r)) K) (hmp:Nat.ble zJ m=false:=by rfl) (hgm:Nat.ble ZJ g=false:=by rfl):goK D σ (⟨some d,none,false,.call x as⟩ :: is) s K:=by
 subst hfs;subst henv
 have hal':¬ ((al && !((yw s as).isEmpty && (V.fn g fs env).toks.isEmpty))=true):=by rw [hal];simp
 simp only [goK,xK,yk,Ur,zx hx rfl,hv,key,cond_false,hD,hσ,hgm,Bool.false_eq_true,if_false]
 rw [if_neg hal']
 simp only [hr,hmp,Bool.not_false,h1,List.isEmpty_nil,Bool.and_self,if_true,Option.getD_some,place,ht,hok,put]
 exact H
theorem MR {g:Nat} {fs env us vs:List V} (h:V.erases fs=us) (h2:V.erases env=vs):(V.fn g fs env).erase = .fn g us vs:=by simp only [V.erase,h,h2]
theorem zf4 {vs us:List V} (h:V.erases vs=us):(V.agg vs).erase = .agg us:=by simp only [V.erase,h]
theorem wz:V.erases []=[]:=rfl
theorem um {v u:V} {vs us:List V} (h:v.erase=u) (hs:V.erases vs=us):V.erases (v :: vs)=u :: us:=by simp only [V.erases,h,hs]
theorem Wf {f:Tok→Option Tok} {g:Nat} {fs env us vs:List V} (h:V.maps f fs=us) (h2:V.maps f env=vs):V.map f (.fn g fs env) = .fn g us vs:=by simp only [V.map,h,h2]
theorem zbr {t:Tok} {i:Nat} {q:List Nat} {u:V} {g:Nat} {fs env us vs:List V} (h:V.muts t i q u fs=us) (h2:V.muts t i q u env=vs):V.mut t i q u (.fn g fs env) = .fn g us vs:=by simp only [V.mut,h,h2]
theorem ud {v r:V} (h:zdB v r) (hm:v.mine=true):fin 0 false v=some r:=by
 simp only [fin,h.own,List.map_nil,List.all_nil,hm,Bool.or_true,Bool.and_true,h.ret]
 simp
theorem wx {α:Type} [Enc α] {r:Nat} {p:List Nat} {o:NL α} (hf:(Enc.shp α).flat=true):(zj (.at r p) o).mine=true:=by
 cases o <;> simp [zj,V.mine,hf]
theorem JZ {vs:List V} (h:V.mines vs=true):(V.agg vs).mine=true:=by simp only [V.mine,h]
theorem zbA {vs:List V} (h:V.mines vs=true):(V.tup vs).mine=true:=by simp only [V.mine,h]
theorem Xu:V.mines []=true:=rfl
theorem wA {v:V} {vs:List V} (h:v.mine=true) (hs:V.mines vs=true):V.mines (v :: vs)=true:=by simp only [V.mines,h,hs,Bool.and_self]
end
end Go.Zq
namespace Go.Zq
open Go.RowKit Go.ChangeShapes Go.Deep
end Go.Zq
namespace Go.Zq
section
variable {P:Program} {w:World} {S:Nat→Prop} {τ:Tok→Blk}
theorem MK {f m:Nat} {al:Bool} {args:List V} {r:V} (h:wn P (unk f) m al args r) (hm:Nat.ble zJ m=false) (hg:Nat.ble ZJ f=false):Yx P f m al args r:=by
 unfold wn at h
 rw [if_neg (by rintro rfl;exact absurd hm (by decide)),if_neg (by rintro rfl;exact absurd hm (by decide)),if_neg (by rintro rfl;exact absurd hm (by decide))] at h
 simpa [unk,hg] using h
theorem Ln {e : Ent} {f : Nat} (hu : unk e.g = f) (con : ∀ args r, e.den args = some r → wn P f e.m e.al args r) (fn : ∃ fn, P.funcs[f]? = some fn ∧ fn.body.isNone = false ∧ (fn.name == "runtime.NumGoroutine") = false) : e.Ok P := by
 subst hu
 exact ⟨con,fn⟩
def zv6 (w:World) (τ:Tok→Blk) (ks:List Tok):Ori:=⟨w,fun b=>w.heap.size≤b∨∃ k∈ks,(τ k).b=b,τ,fun _ h=>.inl h⟩
theorem Jl:∀ (us:List V) (t:Nat) (k:Tok),k∈(us.getD t .dead).toks→k∈V.tokss us
 | [],t,k,h=>by simp [V.toks] at h
 | u :: us,t,k,h=>by
   simp only [V.tokss,List.mem_append]
   cases t with
   | zero=>exact .inl (by simpa using h)
   | succ t=>exact .inr (Jl us t k (by simpa using h))
theorem zaE:∀ (us:List V) (t:Nat),us.all V.ok=true→(us.getD t .dead).ok=true
 | [],t,h=>rfl
 | u :: us,t,h=>by
   simp only [List.all_cons,Bool.and_eq_true] at h
   cases t with
   | zero=>simpa using h.1
   | succ t=>simpa using zaE us t h.2
theorem zfT {args:List V} {vals:Array Value} {nt:Nat} (hS:∀ b,S b→b < w.heap.size) (hr:z6 w S τ args vals.toList) (hk:∀ k∈V.tokss args,k.pinned=true∧(τ k).b < w.heap.size∧¬ S (τ k).b)
    (hinj:∀ k∈V.tokss args,∀ k'∈V.tokss args,(τ k).b=(τ k').b→k=k') (hok:args.all V.ok=true) (hn:args.length≤nt) (hnt:nt≤zJ) :
    Inv (zv6 w τ (V.tokss args)) S nt (init args) { tmps:=vals++Array.replicate (nt - vals.size) undef,defers:=[] } w S τ where
 told t:=by
  have hl:=WK _ _ hr
  simp only [Array.length_toList] at hl
  have:=JJ args vals.toList t hr
  by_cases ht:t < vals.size
  · simp only [init,Act.eval,Array.getD_eq_getD_getElem?,Array.getElem?_append_left ht]
    simpa [List.getD_eq_getElem?_getD] using this
  · have:init args t = .dead:=by
     simp only [init]
     rw [List.getD_eq_getElem?_getD,List.getElem?_eq_none (by omega)];rfl
    rw [this];simp [zu]
 size:=by
  have hl:=WK _ _ hr
  simp at hl ⊢;omega
 defers:=rfl
 own t k h:=by
  have h1:=Jl args t k h
  have h2:=hk k h1
  exact ⟨.inr ⟨k,h1,rfl⟩,h2.2.1,h2.2.2⟩
 inj t t' k k' h h' e:=hinj k (Jl args t k h) k' (Jl args t' k' h') e
 sbd:=hS
 sfr b hb:=.inl hb
 s0 b hb:=hb
 below:=Bel.refl _ _
 lin r v t k hl _ _:=by
  have:=zaE args r hok
  simp only [init] at hl
  rw [hl] at this;simp [V.ok] at this
 gone r t k hg _:=by
  have:=zaE args r hok
  simp only [init] at hg
  rw [hg] at this;simp [V.ok] at this
 small:=hnt
 pin t k h _:=rfl
end
structure On (α:Type) where
 v:NL α
def LC {α:Type} [Enc α] (t:Tok):V→Option (NL α)
 | .sl .nl h 0 []=>if h.beq (Enc.shp α) then some .nil else none
 | .sl t' h 0 xs=>if t'=t∧h.beq (Enc.shp α)=true then (zbK xs).map .of else none
 | _=>none
theorem Wt {α:Type} [Enc α] {r:Nat} {p:List Nat} (o:NL α):LC (.at r p) (zj (.at r p) o)=some o:=by
 cases o with
 | nil=>simp [zj,LC,Sh.beq_refl]
 | of xs=>simp [zj,LC,Sh.beq_refl,KC]
theorem WS {α:Type} [Enc α] {t:Tok} (v:V) (o:NL α) (h:LC t v=some o):zj t o=v:=by
 unfold LC at h
 split at h
 · split at h
   · rename_i hb
     simp only [Option.some.injEq] at h;subst h
     simp [zj,Sh.beq_eq _ _ hb]
   · cases h
 · split at h
   · rename_i hb
     simp only [Option.map_eq_some_iff] at h
     obtain ⟨ys,h1,rfl⟩:=h
     simp [zj,Sh.beq_eq _ _ hb.2,hb.1,KA _ _ h1]
   · cases h
 · cases h
instance {α:Type} [Enc α]:Arg (On α) where
 arg x:=zj (.at zJ []) x.v
 un v:=(LC (.at zJ []) v).map On.mk
 un_arg x:=by simp [Wt]
 arg_un v x h:=by
  simp only [Option.map_eq_some_iff] at h
  obtain ⟨o,h1,rfl⟩:=h
  exact WS v o h1
structure Og (α:Type) where
 a:Int
 v:NL α
instance {α:Type} [Enc α]:Arg (Og α) where
 arg x:=.agg [Enc.enc x.a,zj (.at zJ [1]) x.v]
 un
  | .agg [u,v]=>(Enc.dec u).bind fun a=>(LC (.at zJ [1]) v).map (Og.mk a)
  | _=>none
 un_arg x:=by simp [Wt,Enc.dec_enc]
 arg_un v x h:=by
  split at h
  · simp only [Option.bind_eq_some_iff,Option.map_eq_some_iff] at h
    obtain ⟨a,h0,o,h1,rfl⟩:=h
    simp [WS _ _ h1,Enc.enc_dec _ _ h0]
  · cases h
theorem YT {α:Type} [Enc α] {t:Tok} {o:NL α}:(zj t o).ok=true:=by cases o <;> rfl
theorem Nd {α:Type} [Enc α] {t:Tok} {o:NL α}:(zj t o).mem=true:=by cases o <;> rfl
theorem Wz {α:Type} [Enc α] {t:Tok} {o:NL α}:(zj t o).shape.beq .p=true:=by cases o <;> rfl
theorem X3 {α:Type} [Enc α] {r:Nat} {p:List Nat} {k:Tok} {o:NL α} (h:(k == .at r p)=false) (hn:(k == .nl)=false):(zj (.at r p) o).toks.contains k=false:=by
 cases o with
 | nil=>simp [zj,V.toks,V.tokss]
 | of xs=>
   have h1:((.of xs:NL α)) = .of xs:=rfl
   have:(zj (.at r p) (.of xs)).toks=[.at r p]:=by simp [zj,V.toks,xG]
   rw [this]
   simpa using h
theorem wm {α:Type} [Enc α] {t:Tok} {o:NL α}:(zj t o).shape = .p:=by cases o <;> rfl
theorem ya {α:Type} [Enc α] {r:Nat} {p:List Nat} {k:Tok} {o:NL α} (h:k≠.at r p):k∉(zj (.at r p) o).toks:=by
 cases o with
 | nil=>simp [zj,V.toks,V.tokss]
 | of xs=>
   have:(zj (.at r p) (.of xs)).toks=[.at r p]:=by simp [zj,V.toks,xG]
   rw [this]
   simpa using h
section
variable {D:Den} {σ:Sig} {R:(Nat→V)→Prop} {s:Nat→V} {K:(Nat→V)→Prop} {is:List I}
theorem yU:Zd s []=some []:=rfl
theorem zQ {x:O} {xs:List O} {v:V} {vs:List V} (h:x.ev s=v) (hk:v.ok=true) (hs:Zd s xs=some vs):Zd s (x :: xs)=some (v :: vs):=by
 simp only [Zd,zx h hk,hs]
theorem Yw {α:Type} [Enc α] {d:Nat} {p:List Nat} {o:NL α}:V.tag d p 1 (zj .sh o)=zj (.at d p) o:=by
 cases o with
 | nil=>rfl
 | of xs=>
   simp only [zj,V.tag]
   split
   · rfl
   · congr 1
     have:∀ (xs:List α) k,V.tags d p 0 k (xs.map Enc.enc)=xs.map Enc.enc:=by
      intro xs
      induction xs with
      | nil=>intro k;rfl
      | cons x xs ih=>intro k;simp [V.tags,Enc.tag0,ih]
     exact this xs 0
theorem Zv {α:Type} [Enc α] {o:NL α}:(zj .sh o).toks=[]:=by
 cases o with
 | nil=>simp [zj,V.toks,V.tokss]
 | of xs=>rfl
theorem LQ {d:Nat} {p:List Nat} {m:Nat} {vs us:List V} (h:V.tags d p m 0 vs=us):V.tag d p m (.agg vs) = .agg us:=by simp only [V.tag,h]
theorem J9 {d:Nat} {p:List Nat} {m k:Nat}:V.tags d p m k []=[]:=rfl
theorem Z2 {d:Nat} {p:List Nat} {m k:Nat} {v u:V} {vs us:List V} (h:V.tag d (p++[k]) m v=u) (hs:V.tags d p m (k + 1) vs=us):V.tags d p m k (v :: vs)=u :: us:=by simp only [V.tags,h,hs]
theorem J6 {vs:List V} (h:V.tokss vs=[]):(V.agg vs).toks=[]:=by simp only [V.toks,h]
theorem yB:V.tokss []=[]:=rfl
theorem yh {v:V} {vs:List V} (h:v.toks=[]) (hs:V.tokss vs=[]):V.tokss (v :: vs)=[]:=by simp only [V.tokss,h,hs,List.append_nil]
theorem Uf {d g m:Nat} {al:Bool} {as:List O} {r v:V} {kk:Nat} (vs:List V) (hv:yG as s=some (vs,s)) (hD:D kk vs=some r) (hσ:σ kk=some (m,al)) (hal:(al && !(yw s as).isEmpty)=false)
    (hr:r.toks=[]) (ht:V.tag d [] m r=v) (hok:v.ok=true) (hg:s d = .gone) (H:goK D σ is (upd s d v) K) (hmp:Nat.ble zJ m=false:=by rfl) (hgm:Nat.ble ZJ g=false:=by rfl) (hkk:g + ZJ=kk:=by rfl) :
    goK D σ (⟨some d,none,false,.callO (.k (.fn g [] [])) as⟩ :: is) s K:=by
 subst ht
 subst hkk
 have h0:(V.fn g [] []).toks=[]:=by simp [V.toks,V.tokss]
 have h1:O.rd s (.k (.fn g [] []))=some (.fn g [] []):=rfl
 have hal':¬ ((al && !((yw s as).isEmpty && (V.fn g [] []).toks.isEmpty))=true):=by simp [h0];simpa using hal
 simp only [goK,xK,yk,Ur,h1,hv,V.erases,List.nil_append,List.append_nil,key,cond_true,hD,hσ,hgm,Bool.false_eq_true,if_false]
 rw [if_neg hal']
 simp only [hr,hmp,Bool.not_false,List.isEmpty_nil,List.all_nil,Bool.and_self,if_true,Option.getD_some,place,hok,hg,put]
 split
 · rename_i h
   split at h
   · simp only [Option.some.injEq] at h;subst h;exact H
   · simp at h;subst h;exact H
 · rename_i h
   split at h <;> cases h
def zgK (d:Nat) {α:Type} [Enc α]:NL α→V
 | .nil=>zj (.at d []) (.nil:NL α)
 | .of xs=>.lin (zj (.at d []) (.of xs))
theorem zb8 {α:Type} [Enc α] {d g m:Nat} {al:Bool} {as:List O} {r:V} {o:NL α} {kk:Nat} (vs:List V) (hv:yG as s=some (vs,s)) (hD:D kk vs=some r) (hσ:σ kk=some (m,al)) (hal:(al && !(yw s as).isEmpty)=false)
    (hr:r.toks=[]) (ht:V.tag d [] m r=zj (.at d []) o) (hg:s d = .gone) (H:goK D σ is (upd s d (zgK d o)) K) (hmp:Nat.ble zJ m=false:=by rfl) (hgm:Nat.ble ZJ g=false:=by rfl) (hkk:g + ZJ=kk:=by rfl) :
    goK D σ (⟨some d,none,true,.callO (.k (.fn g [] [])) as⟩ :: is) s K:=by
 subst hkk
 have h0:(V.fn g [] []).toks=[]:=by simp [V.toks,V.tokss]
 have h1:O.rd s (.k (.fn g [] []))=some (.fn g [] []):=rfl
 have hal':¬ ((al && !((yw s as).isEmpty && (V.fn g [] []).toks.isEmpty))=true):=by simp [h0];simpa using hal
 simp only [goK,xK,yk,Ur,h1,hv,V.erases,List.nil_append,List.append_nil,key,cond_true,hD,hσ,hgm,Bool.false_eq_true,if_false]
 rw [if_neg hal']
 simp only [hr,hmp,ht,Bool.not_false,List.isEmpty_nil,List.all_nil,Bool.and_self,if_true,Option.getD_some,place,YT,hg,put]
 cases o with
 | nil=>simpa [zj,V.toks,V.tokss,zgK] using H
 | of xs=>simpa [zj,V.toks,xG,zgK] using H
theorem zen {α:Type} [Enc α] {d r:Nat} {g:Sh} {o:NL α} {ys zs:List α} {y:O} {t2:Tok} {lo2:Nat} {l:Bool} (hx:s r=zgK r o) (hy:y.ev s = .sl t2 (Enc.shp α) lo2 (ys.map Enc.enc)) (hgg:g=Enc.shp α) (hg:s d = .gone) (hne:ys≠[]) (ha:wJ o.list ys=some zs)
    (H:∀ s1,(∀ t,t≠r→s1 t=s t)→goK D σ is (upd s1 d (if l then .lin (zj (.at d []) (.of zs)) else zj (.at d []) (.of zs))) K):goK D σ (⟨some d,none,l,.appS g (.t r) y⟩ :: is) s K:=by
 subst hgg
 unfold wJ at ha
 split at ha
 case isFalse=>cases ha
 rename_i hlen
 simp only [Option.some.injEq] at ha;subst ha
 have hrd:r≠d:=by
  rintro rfl
  rw [hx] at hg
  cases o <;> simp [zgK,zj] at hg
 have hne2:ys.map (Enc.enc:α→V)≠[]:=by simpa using hne
 cases o with
 | nil=>
   have hsp:ZA s (.t r)=some (s,.sl .nl (Enc.shp α) 0 []):=by simp only [ZA];rw [hx];rfl
   simp only [goK,xK,yk,hsp,zx hy rfl,hg,Sh.beq_refl,xG,List.isEmpty_nil,Bool.or_true,Bool.true_and]
   simp only [NL.list,List.length_nil] at hlen
   rw [if_pos (by simpa using hlen)]
   have e:WW d .nl (Enc.shp α) [] (ys.map Enc.enc)=zj (.at d []) (.of ((NL.nil:NL α).list++ys)):=by
    simp [WW,zj,NL.list,hne2]
   have hl:(l && !decide (True∧ys.map (Enc.enc:α→V)=[]))=l:=by simp [hne]
   rw [e,hl]
   exact H s (fun t _=>rfl)
 | of xs=>
   have hsp:ZA s (.t r)=some (upd s r .dead,.sl (.at r []) (Enc.shp α) 0 (xs.map Enc.enc)):=by
    simp only [ZA];rw [hx];simp [zgK,zj,xG]
   have hgd:upd s r .dead d = .gone:=by rw [zS _ _ hrd.symm];exact hg
   simp only [goK,xK,yk,hsp,zx hy rfl,hgd,Sh.beq_refl,xG,List.isEmpty_nil,Bool.or_true,Bool.true_and]
   simp only [NL.list] at hlen
   rw [if_pos (by simpa using hlen)]
   have e:WW d (.at r []) (Enc.shp α) (xs.map Enc.enc) (ys.map Enc.enc)=zj (.at d []) (.of ((NL.of xs).list++ys)):=by
    simp [WW,zj,NL.list]
   have hl:(l && !decide (Tok.at r [] = .nl∧ys.map (Enc.enc:α→V)=[]))=l:=by simp
   rw [e,hl]
   exact H _ (fun t ht=>zS _ _ ht)
theorem zap {d g m rl:Nat} {al:Bool} {as:List O} {r:V} (vs:List V) (hv:yG as s=some (vs,upd s rl .dead)) (hD:D g vs=some r) (hσ:σ g=some (m,al)) (hal:(al && !(yw s as).isEmpty)=false)
    (hr:r.toks=[]) (ht:(V.tag d [] m r).toks=[]) (hok:(V.tag d [] m r).ok=true) (H:goK D σ is (upd (upd s rl .dead) d (V.tag d [] m r)) K) (hmp:Nat.ble zJ m=false:=by rfl) (hgm:Nat.ble ZJ g=false:=by rfl):goK D σ (⟨some d,none,false,.call (.k (.fn g [] [])) as⟩ :: is) s K:=by
 have h0:(V.fn g [] []).toks=[]:=by simp [V.toks,V.tokss]
 have h1:O.rd s (.k (.fn g [] []))=some (.fn g [] []):=rfl
 have hal':¬ ((al && !((yw s as).isEmpty && (V.fn g [] []).toks.isEmpty))=true):=by simp [h0];simpa using hal
 simp only [goK,xK,yk,Ur,h1,hv,V.erases,List.nil_append,List.append_nil,key,cond_false,hD,hσ,hgm,Bool.false_eq_true,if_false]
 rw [if_neg hal']
 simp only [hr,hmp,Bool.not_false,List.isEmpty_nil,List.all_nil,Bool.and_self,if_true,Option.getD_some,place,ht,hok,put]
 exact H
theorem zda {s1:Nat→V} {r:Nat} {v u:V} {xs:List O} {vs:List V} (h:s r = .lin v) (he:v.erase=u) (hs:yG xs (upd s r .dead)=some (vs,s1)):yG (.t r :: xs) s=some (u :: vs,s1):=by
 simp only [yG,O.ev,h,hs,Option.map_some,he]
theorem zdN {α:Type} [Enc α] {r:Nat} {p:List Nat} {o:NL α} {xs:List O} (h:s r = .lin (zj (.at r p) o)) (hs:yw s xs=[]):yw s (.t r :: xs)=[]:=by
 simp only [yw,O.ev,h,hs,List.append_nil]
 cases o with
 | nil=>simp [zj,V.toks,V.tokss]
 | of xs=>simp [zj,V.toks,xG,Tok.root?]
def kdO {α:Type} [Enc α]:NL α→V
 | .nil=>.sl .nl (Enc.shp α) 0 []
 | .of _=>.dead
theorem X9 {α:Type} [Enc α] {r:Nat} {p:List Nat} {o:NL α}:V.map (Wa (.at r p)) (zj (.at r p) o)=kdO o:=by
 cases o with
 | nil=>simp [zj,V.map,Wa,kdO,V.maps]
 | of xs=>simp [zj,V.map,Wa,kdO]
theorem LK {α:Type} [Enc α] {t:Tok} {i:Nat} {q:List Nat} {u:V} {o:NL α}:V.mut t i q u (kdO o)=kdO o:=by
 cases o with
 | nil=>cases t <;> simp [V.mut,kdO,V.muts,V.setPs]
 | of xs=>rfl
theorem LJ {α:Type} [Enc α] {o:NL α}:(kdO o).shape.beq .p=true:=by cases o <;> rfl
theorem U1 {x:Nat} {es:List E} (H:∀ s1,s1 x = .dead→(∀ t,t≠x→s1 t=s t)→epK es s1 K):epK (.drp x :: es) s K:=by
 simp only [epK,Jt]
 exact H _ (by simp) (fun t ht=>zS _ _ ht)
end
structure zgU (v r:V) (p:List Nat) (ts:List Tok):Prop where
 own:∃ l,V.own p 1 v=some l∧(l.map (·.2)).Sublist ts
 ret:V.ret 1 v=r
 low:V.low 1 v=[]
structure zeS (vs rs:List V) (p:List Nat) (i:Nat) (ts:List Tok):Prop where
 own:∃ l,V.owns p 1 i vs=some l∧(l.map (·.2)).Sublist ts
 ret:V.rets 1 vs=rs
 low:V.lows 1 vs=[]
theorem UP {α:Type} [Enc α] {r:Nat} {p q:List Nat} {o:NL α}:zgU (zj (.at r q) o) (zj .sh o) p [.at r q]:=by
 cases o with
 | nil=>exact ⟨⟨[],rfl,by simp⟩,rfl,rfl⟩
 | of xs=>
   have h0:∀ (xs:List α) k,V.owns p 0 k (xs.map Enc.enc)=some []:=by
    intro xs
    induction xs with
    | nil=>intro k;rfl
    | cons x xs ih=>intro k;simp [V.owns,Enc.own0,ih]
   have h1:∀ (xs:List α),V.lows 0 (xs.map Enc.enc)=[]:=by
    intro xs
    induction xs with
    | nil=>rfl
    | cons x xs ih=>simp [V.lows,Enc.low0,ih]
   have h2:∀ (xs:List α),V.rets 0 (xs.map Enc.enc)=xs.map Enc.enc:=by
    intro xs
    induction xs with
    | nil=>rfl
    | cons x xs ih=>simp [V.rets,Enc.ret0,ih]
   refine ⟨⟨[(p,.at r q)],?_,by simp⟩,?_,?_⟩
   · simp only [zj,V.own]
     split
     · split
       · rfl
       · rw [h0];rfl
     · rename_i h;exact absurd trivial h
   · simp only [zj,V.ret]
     split
     · rfl
     · rw [h2]
   · simp only [zj,V.low]
     split
     · rfl
     · exact h1 xs
theorem Nk {k:IntKind} {n:Int} {p:List Nat}:zgU (.int k n) (.int k n) p []:=⟨⟨[],rfl,by simp⟩,rfl,rfl⟩
theorem KJ {p:List Nat} {i:Nat}:zeS [] [] p i []:=⟨⟨[],rfl,by simp⟩,rfl,rfl⟩
theorem YB {v r:V} {vs rs:List V} {p:List Nat} {i:Nat} {ts us:List Tok} (h:zgU v r (p++[i]) ts) (hs:zeS vs rs p (i + 1) us):zeS (v :: vs) (r :: rs) p i (ts++us):=by
 obtain ⟨l,h1,h2⟩:=h.own
 obtain ⟨l',h3,h4⟩:=hs.own
 exact ⟨⟨l++l',by simp [V.owns,h1,h3],by rw [List.map_append];exact h2.append h4⟩,by simp [V.rets,h.ret,hs.ret],by simp [V.lows,h.low,hs.low]⟩
theorem Mv {vs rs:List V} {p:List Nat} {ts:List Tok} (h:zeS vs rs p 0 ts):zgU (.agg vs) (.agg rs) p ts:=by
 obtain ⟨l,h1,h2⟩:=h.own
 exact ⟨⟨l,by simpa [V.own] using h1,h2⟩,by simp [V.ret,h.ret],by simp [V.low,h.low]⟩
theorem UM {v r:V} {ts:List Tok} {al:Bool} (h:zgU v r [] ts) (hn:decide ts.Nodup=true) (hm:(al || v.mine)=true):fin 1 al v=some r:=by
 obtain ⟨l,h1,h2⟩:=h.own
 have hnd:(l.map (·.2)).Nodup:=h2.nodup (of_decide_eq_true hn)
 simp only [fin,h1,hnd,decide_true,h.low,hm,h.ret]
 simp
def NL.set {α:Type} (o:NL α) (i:Nat) (b:α):NL α:=match o with
 | .nil=>.nil
 | .of xs=>.of (xs.set i b)
end Go.Zq
namespace Go.Zq
section
variable {P:Program}
end
section
variable {D:Den} {σ:Sig} {s s0 s1:Nat→V} {K:(Nat→V)→Prop} {is:List I}
theorem zgB {k:Tok}:Xe [k]=Wa k:=by
 funext k'
 unfold Xe Wa
 by_cases e:k'=k
 · subst e;simp
 · have h1:[k].contains k'=false:=by simpa using e
   have h2:(k' == k)=false:=by simpa using e
   rw [h1,h2]
end
def zmK {α:Type}:NL α→Option (List α)
 | .nil=>none
 | .of xs=>some xs
theorem zko {α:Type} {o:NL α} {xs:List α} (h:zmK o=some xs):o = .of xs:=by
 cases o with
 | nil=>cases h
 | of ys=>cases h;rfl
theorem Qb {α:Type} [Enc α] {s:Nat→V} {x:O} {lo hi:Option O} {e r:Nat} {p:List Nat} {xs ys:List α} {a b:Int} (hx:x.ev s=zj (.at r p) (.of xs)) (hl:zcF s 0 lo a) (hh:zcF s xs.length hi b) (h:sub xs a b=some ys)
    (he:(Enc.shp α).size=e):z8 s (.slice x lo hi e)=some (.sl (.at r p) (Enc.shp α) a.toNat (ys.map Enc.enc)):=by
 unfold sub at h
 split at h
 · rename_i hb
   simp only [Option.some.injEq] at h;subst h
   have hx':x.ev s = .sl (.at r p) (Enc.shp α) 0 (xs.map Enc.enc):=hx
   simp only [z8,zx hx' rfl,Kg hl hb.1,List.length_map]
   rw [Kg hh (by omega)]
   simp only [he]
   rw [if_pos (by simp [Tok.isBx];omega)]
   simp [List.map_take,List.map_drop]
 · cases h
end Go.Zq
namespace Go.Zq
abbrev TF:=Nat→Nat×List Nat
def tk (x:Nat×List Nat):Tok:=.at x.1 x.2
section
variable {α:Type} [Enc α]
def zgp (T:TF):Nat→List (NL α)→List V
 | _,[]=>[]
 | k,o :: os=>zj (tk (T k)) o :: zgp T (k + 1) os
def zje (r:Nat) (p:List Nat):TF:=fun k=>(r,p++[k])
def MJ (r:Nat) (p:List Nat):NL (NL α)→V
 | .nil=>.sl .nl .p 0 []
 | .of os=>.sl (.at r p) .p 0 (zgp (zje r p) 0 os)
theorem JG {r:Nat} {p:List Nat} {o:NL (NL α)}:(MJ r p o).shape = .p:=by cases o <;> rfl
end
section
variable {α:Type}
end
section
variable {α:Type} [Enc α]
end
end Go.Zq
