/- The pure machine: what the model of Go does, told of values without memory (part 3). No further condition. -/
import Derived.Test.YtelahampjnaimabK2
import Derived.Orders
import Derived.Tactics
import Derived.LoopN
import Derived.Deep.Slices
import Derived.Deep.Strs
import Derived.WalkKit
import Derived.ProofKit
import Derived.OpenShut
import Derived.ShutString
import Derived.ChangeOld
import Derived.Below
import Derived.SizedLaws
import Derived.Carry
set_option linter.unusedVariables false
set_option linter.unusedSimpArgs false
namespace Go.Zq
def X.rds:X→List Nat
 | .v a=>a.rds
 | .vN a bs=>a.rds++bs
 | .alloc _=>[]
 | .box x=>x.rds
 | .mk n _ _=>n.rds
 | .lit _ _ ps=>ps.flatMap fun p=>p.2.2.rds
 | .app _ x y | .appS _ x y=>x.rds++y.rds
 | .store _ x y | .copy x y=>x.rds++y.rds
 | .call f as=>f.rds++as.flatMap O.rds
 | .mark f as=>f.rds++as.flatMap O.rds
 | .callO f as=>f.rds++as.flatMap O.rds
 | .callG f _ as=>f.rds++as.flatMap O.rds
 | .callT f as bs es=>f.rds++as.flatMap O.rds++bs++es
 | .storeK _ x y=>x.rds++y.rds
 | .litS _ _ ps=>ps.flatMap fun p=>p.2.2.rds
def X.loc:X→Bool
 | .app .. | .store .. | .mark .. | .callG .. | .copy .. | .callT .. | .storeK ..=>false
 | _=>true
def X.wrs:X→List Nat
 | .appS _ x _=>x.rds
 | .call _ as=>as.flatMap O.rds
 | .callO _ as=>as.flatMap O.rds
 | _=>[]
def I.rds (i:I):List Nat:=i.d.toList++(i.g.map (·.1)).toList++i.x.rds
def I.wrs (i:I):List Nat:=i.d.toList++i.x.wrs
theorem KN {s1 s2:Nat→V} {x:O} (h:∀ t∈x.rds,s1 t=s2 t):x.ev s1=x.ev s2:=by
 cases x with
 | t n=>exact h n (by simp [O.rds])
 | k v=>rfl
theorem yH {s1 s2:Nat→V} {x:O} (h:∀ t∈x.rds,s1 t=s2 t):x.rd s1=x.rd s2:=by
 unfold O.rd;rw [KN h]
theorem zgQ {s1 s2:Nat→V} {x:O} (h:∀ t∈x.rds,s1 t=s2 t):x.pk s1=x.pk s2:=by
 unfold O.pk;rw [KN h]
theorem Yt {s1 s2:Nat→V}:∀ {xs:List O},(∀ t∈xs.flatMap O.rds,s1 t=s2 t)→Zs s1 xs=Zs s2 xs
 | [],_=>rfl
 | x :: xs,h=>by
   simp only [Zs]
   rw [yH (x:=x) fun t ht=>h t (by simp [ht]),Yt (xs:=xs) fun t ht=>h t (by simp at ht ⊢;exact .inr ht)]
theorem Kz {s1 s2:Nat→V} {d:Nat} {x:Option O} (h:∀ t∈(x.map O.rds).getD [],s1 t=s2 t):Yg s1 d x=Yg s2 d x:=by
 cases x with
 | none=>rfl
 | some x=>simp only [Yg];rw [yH (x:=x) fun t ht=>h t (by simpa using ht)]
theorem w7 {s1 s2:Nat→V}:∀ {ps:List (Nat×Nat×O)} {vs:List V},(∀ t∈ps.flatMap (fun p=>p.2.2.rds),s1 t=s2 t)→xz s1 ps vs=xz s2 ps vs
 | [],_,_=>rfl
 | (f,off,x) :: ps,vs,h=>by
   simp only [xz]
   rw [yH (x:=x) fun t ht=>h t (by simp [ht])]
   have ih:∀ vs,xz s1 ps vs=xz s2 ps vs:=fun vs=>w7 (ps:=ps) fun t ht=>h t (by simp at ht ⊢;exact .inr ht)
   simp only [ih]
theorem uC {s1 s2:Nat→V} {a:A} (h:∀ t∈a.rds,s1 t=s2 t):yi s1 a=yi s2 a:=by
 cases a with
 | mov x=>exact yH h
 | pick c x y=>
   simp only [yi]
   rw [yH (x:=c) fun t ht=>h t (by simp [A.rds,ht]),yH (x:=x) fun t ht=>h t (by simp [A.rds,ht]),yH (x:=y) fun t ht=>h t (by simp [A.rds,ht])]
 | load g x=>simp only [yi];rw [yH (x:=x) h]
 | nilc x=>simp only [yi];rw [yH (x:=x) h]
 | un op x=>simp only [yi];rw [yH (x:=x) h]
 | conv k x=>simp only [yi];rw [yH (x:=x) h]
 | fld x f o=>simp only [yi];rw [yH (x:=x) h]
 | field x f o g=>simp only [yi];rw [yH (x:=x) h]
 | ext x i=>simp only [yi];rw [yH (x:=x) h]
 | extS x i=>simp only [yi];rw [yH (x:=x) h]
 | sliceA x n g=>simp only [yi];rw [yH (x:=x) h]
 | len x=>simp only [yi];rw [zgQ (x:=x) h]
 | bin op x y=>simp only [yi];rw [yH (x:=x) fun t ht=>h t (by simp [A.rds,ht]),yH (x:=y) fun t ht=>h t (by simp [A.rds,ht])]
 | beq ne x y=>simp only [yi];rw [yH (x:=x) fun t ht=>h t (by simp [A.rds,ht]),yH (x:=y) fun t ht=>h t (by simp [A.rds,ht])]
 | eqP ne x y=>simp only [yi];rw [yH (x:=x) fun t ht=>h t (by simp [A.rds,ht]),yH (x:=y) fun t ht=>h t (by simp [A.rds,ht])]
 | idx x y e=>simp only [yi];rw [yH (x:=x) fun t ht=>h t (by simp [A.rds,ht]),yH (x:=y) fun t ht=>h t (by simp [A.rds,ht])]
 | idxA x y n e=>simp only [yi];rw [yH (x:=x) fun t ht=>h t (by simp [A.rds,ht]),yH (x:=y) fun t ht=>h t (by simp [A.rds,ht])]
 | index x y n g=>simp only [yi];rw [yH (x:=x) fun t ht=>h t (by simp [A.rds,ht]),yH (x:=y) fun t ht=>h t (by simp [A.rds,ht])]
 | fn f fs cs=>simp only [yi];rw [Yt (xs:=fs) fun t ht=>h t (by simp only [A.rds,zG];exact .inl ht),Yt (xs:=cs) fun t ht=>h t (by simp only [A.rds,zG];exact .inr ht)]
 | slice x lo hi e=>
   simp only [yi]
   have e1:∀ d,Yg s1 d lo=Yg s2 d lo:=fun d=>Kz fun t ht=>h t (by simp only [A.rds,zG];exact .inl (.inr ht))
   have e2:∀ d,Yg s1 d hi=Yg s2 d hi:=fun d=>Kz fun t ht=>h t (by simp only [A.rds,zG];exact .inr ht)
   rw [yH (x:=x) fun t ht=>h t (by simp [A.rds,ht])]
   simp only [e1,e2]
 | mx xs=>simp only [yi];rw [Yt (xs:=xs) h]
 | mn xs=>simp only [yi];rw [Yt (xs:=xs) h]
 | bld z ps=>
   simp only [yi]
   have e1:∀ vs,xz s1 ps vs=xz s2 ps vs:=fun vs=>w7 h
   simp only [e1]
def Mx (W:List Nat) (s1 s2:Nat→V):Option (Nat→V)→Option (Nat→V)→Prop
 | some a,some b=>(∀ t∈W,a t=b t)∧∀ t,t∉W→a t=s1 t∧b t=s2 t
 | none,none=>True
 | _,_=>False
theorem Z3 {s1 s2:Nat→V} {d:Nat} {W:List Nat} (hd:d∈W) (h:∀ t∈W,t=d∨s1 t=s2 t) (v:V):Mx W s1 s2 (some (upd s1 d v)) (some (upd s2 d v)):=by
 refine ⟨fun t ht=>?_,fun t ht=>?_⟩
 · by_cases e:t=d
   · subst e;simp
   · rw [zL _ _ e,zL _ _ e];exact (h t ht).resolve_left e
 · have:t≠d:=by rintro rfl;exact ht hd
   rw [zL _ _ this,zL _ _ this];exact ⟨rfl,rfl⟩
theorem Mz {s1 s2:Nat→V}:∀ {xs:List O},(∀ t∈xs.flatMap O.rds,s1 t=s2 t) →
    match xg xs s1,xg xs s2 with
    | some (v1,a),some (v2,b)=>v1=v2∧(∀ t∈xs.flatMap O.rds,a t=b t)∧∀ t,t∉xs.flatMap O.rds→a t=s1 t∧b t=s2 t
    | none,none=>True
    | _,_=>False:=by
 intro xs
 induction xs generalizing s1 s2 with
 | nil=>intro h;simp [xg]
 | cons x xs ih=>
   intro h
   have e:=KN (x:=x) (s1:=s1) (s2:=s2) fun t ht=>h t (by simp [ht])
   have hx:∀ t∈xs.flatMap O.rds,s1 t=s2 t:=fun t ht=>h t (by simp at ht ⊢;exact .inr ht)
   have stay:∀ v:V,match (xg xs s1).map (fun p=>(v.erase :: p.1,p.2)),(xg xs s2).map (fun p=>(v.erase :: p.1,p.2)) with
       | some (v1,a),some (v2,b)=>v1=v2∧(∀ t∈(x :: xs).flatMap O.rds,a t=b t)∧∀ t,t∉(x :: xs).flatMap O.rds→a t=s1 t∧b t=s2 t
       | none,none=>True
       | _,_=>False:=by
    intro v
    have:=ih hx
    cases h1:xg xs s1 <;> cases h2:xg xs s2 <;> simp only [h1,h2] at this
    · trivial
    · rename_i p q
      obtain ⟨p1,p2⟩:=p
      obtain ⟨q1,q2⟩:=q
      obtain ⟨h0,h3,h4⟩:=this
      dsimp only at h0 h3 h4
      subst h0
      simp only [ym]
      refine ⟨trivial,fun t ht=>?_,fun t ht=>?_⟩
      · by_cases hm:t∈xs.flatMap O.rds
        · exact h3 t hm
        · rw [(h4 t hm).1,(h4 t hm).2];exact h t ht
      · exact h4 t (by simp at ht ⊢;exact ht.2)
   simp only [xg]
   rw [← e]
   cases hv:x.ev s1 with
   | gone=>trivial
   | lin v=>
     cases x with
     | k u=>trivial
     | t r=>
       simp only
       have hu:∀ t∈xs.flatMap O.rds,upd s1 r .dead t=upd s2 r .dead t:=by
        intro t ht
        by_cases e:t=r
        · subst e;simp
        · rw [zL _ _ e,zL _ _ e];exact hx t ht
       have:=ih hu
       cases h1:xg xs (upd s1 r .dead) <;> cases h2:xg xs (upd s2 r .dead) <;> simp only [h1,h2] at this
       · trivial
       · rename_i p q
         obtain ⟨p1,p2⟩:=p
         obtain ⟨q1,q2⟩:=q
         obtain ⟨h0,h3,h4⟩:=this
         dsimp only at h0 h3 h4
         subst h0
         simp only [ym]
         refine ⟨trivial,fun t ht=>?_,fun t ht=>?_⟩
         · by_cases hm:t∈xs.flatMap O.rds
           · exact h3 t hm
           · rw [(h4 t hm).1,(h4 t hm).2]
             by_cases e:t=r
             · subst e;simp
             · rw [zL _ _ e,zL _ _ e];exact h t ht
         · have h5:=h4 t (by simp at ht ⊢;exact ht.2)
           have:t≠r:=by rintro rfl;simp [O.rds] at ht
           rw [zL _ _ this,zL _ _ this] at h5
           exact h5
   | _=>exact stay _
theorem Jm {s1 s2:Nat→V}:∀ {xs:List O},(∀ t∈xs.flatMap O.rds,s1 t=s2 t)→xn s1 xs=xn s2 xs
 | [],_=>rfl
 | x :: xs,h=>by
   simp only [xn]
   rw [KN (x:=x) fun t ht=>h t (by simp [ht]),Jm (xs:=xs) fun t ht=>h t (by simp at ht ⊢;exact .inr ht)]
theorem zcs {s1 s2:Nat→V} {d:Option Nat} {l:Bool} {v:V} (h:∀ t∈d.toList,s1 t=s2 t):Mx d.toList s1 s2 (place s1 d l v) (place s2 d l v):=by
 unfold place
 cases d with
 | none=>
   split
   · split
     · exact ⟨fun t ht=>absurd ht (by simp),fun t _=>⟨rfl,rfl⟩⟩
     · trivial
   · trivial
 | some d=>
   have hd:s1 d=s2 d:=h d (by simp)
   split
   · split
     · exact Z3 (by simp) (fun t ht=>.inl (by simpa using ht)) v
     · trivial
   · simp only
     rw [← hd]
     split
     · split
       · exact Z3 (by simp) (fun t ht=>.inl (by simpa using ht)) _
       · trivial
     · trivial
theorem Mx.widen {W W':List Nat} {s1 s2:Nat→V} {a b:Option (Nat→V)} (h:Mx W s1 s2 a b) (hw:∀ t∈W,t∈W') (he:∀ t∈W',s1 t=s2 t):Mx W' s1 s2 a b:=by
 cases a <;> cases b <;> simp only [Mx] at h ⊢
 · refine ⟨fun t ht=>?_,fun t ht=>h.2 t (fun hm=>ht (hw t hm))⟩
   rename_i a b
   by_cases hm:t∈W
   · exact h.1 t hm
   · rw [(h.2 t hm).1,(h.2 t hm).2];exact he t ht
theorem Me {D:Den} {σ:Sig} {s1 s2:Nat→V} {d:Option Nat} {l ob:Bool} {f:O} {as:List O} (hdl:∀ t∈d.toList,s1 t=s2 t) (hxr:∀ t∈f.rds++as.flatMap O.rds,s1 t=s2 t) :
    Mx (d.toList++as.flatMap O.rds) s1 s2 (JY D σ s1 d l ob f as) (JY D σ s2 d l ob f as):=by
 simp only [JY]
 rw [yH (x:=f) fun t ht=>hxr t (by simp [ht])]
 have has:∀ t∈as.flatMap O.rds,s1 t=s2 t:=fun t ht=>hxr t (by simp only [zG];exact .inr ht)
 have hta:=Mz (xs:=as) has
 rw [Jm (xs:=as) has]
 cases f.rd s2 with
 | none=>trivial
 | some fv=>
   cases fv with
   | fn g fs env=>
     simp only
     cases h1:xg as s1 <;> cases h2:xg as s2 <;> simp only [h1,h2] at hta
     · trivial
     · rename_i p q
       obtain ⟨p1,p2⟩:=p
       obtain ⟨q1,q2⟩:=q
       obtain ⟨h0,h3,h4⟩:=hta
       dsimp only at h0 h3 h4
       subst h0
       simp only
       split
       · rename_i r m al hD hσ
         split
         · trivial
         split
         · trivial
         · split
           · have hp:∀ t∈d.toList,p2 t=q2 t:=by
              intro t ht
              by_cases hm:t∈as.flatMap O.rds
              · exact h3 t hm
              · rw [(h4 t hm).1,(h4 t hm).2];exact hdl t ht
             have hpl:=zcs (l:=l) (v:=V.tag (d.getD 0) [] m r) hp
             cases hpa:place p2 d l (V.tag (d.getD 0) [] m r) <;> cases hpb:place q2 d l (V.tag (d.getD 0) [] m r) <;> simp only [hpa,hpb,Mx] at hpl ⊢
             rename_i a b
             refine ⟨fun t ht=>?_,fun t ht=>?_⟩
             · by_cases hm:t∈d.toList
               · exact hpl.1 t hm
               · rw [(hpl.2 t hm).1,(hpl.2 t hm).2]
                 rcases zG.1 ht with h | h
                 · exact absurd h hm
                 · exact h3 t h
             · simp only [zG,not_or] at ht
               rw [(hpl.2 t ht.1).1,(hpl.2 t ht.1).2]
               exact h4 t ht.2
           · trivial
       · trivial
   | _=>trivial
theorem zc1 {D:Den} {σ:Sig} {s1 s2:Nat→V} {d:Option Nat} {l:Bool} {x:X} (hl:x.loc=true) (h:∀ t∈d.toList++x.rds,s1 t=s2 t) :
    Mx (d.toList++x.wrs) s1 s2 (yI D σ s1 d l x) (yI D σ s2 d l x):=by
 have hdl:∀ t∈d.toList,s1 t=s2 t:=fun t ht=>h t (by simp only [zG];exact .inl ht)
 have hxr:∀ t∈x.rds,s1 t=s2 t:=fun t ht=>h t (by simp only [zG];exact .inr ht)
 have hw:∀ t∈d.toList++x.wrs,s1 t=s2 t:=by
  intro t ht
  refine h t ?_
  simp only [zG] at ht ⊢
  refine ht.imp id fun ht=>?_
  cases x <;> simp only [X.wrs,X.rds] at ht ⊢ <;> first | (simp at ht;done) | (simp only [zG];first | exact .inl ht | exact .inr ht)
 cases x with
 | app g x y=>simp [X.loc] at hl
 | store g x y=>simp [X.loc] at hl
 | mark f as=>simp [X.loc] at hl
 | callG f i as=>simp [X.loc] at hl
 | callT f as bs es=>simp [X.loc] at hl
 | storeK h x y=>simp [X.loc] at hl
 | copy x y=>simp [X.loc] at hl
 | v a=>
   simp only [yI,X.wrs,xj]
   rw [uC (a:=a) hxr]
   cases yi s2 a with
   | none=>trivial
   | some v=>
     simp only [ym]
     cases d with
     | none=>exact ⟨fun t ht=>absurd ht (by simp),fun t _=>⟨rfl,rfl⟩⟩
     | some d=>exact Z3 (by simp) (fun t ht=>.inl (by simpa using ht)) v
 | vN a bs=>
   have h1:∀ t∈a.rds,s1 t=s2 t:=fun t ht=>hxr t (by simp [X.rds,ht])
   have h2:yL s1 bs=yL s2 bs:=by
    unfold yL
    have:∀ l:List Nat,(∀ t∈l,s1 t=s2 t)→(l.flatMap fun b=>(s1 b).toks)=l.flatMap fun b=>(s2 b).toks:=by
     intro l
     induction l with
     | nil=>intro _;rfl
     | cons x l ih=>intro h;simp only [List.flatMap_cons,h x (by simp),ih fun t ht=>h t (by simp [ht])]
    exact this bs fun t ht=>hxr t (by simp [X.rds,ht])
   have h3:(a.rds.all fun t=>(s1 t).live && (s1 t).toks.all fun k=>!(yL s1 bs).contains k)=(a.rds.all fun t=>(s2 t).live && (s2 t).toks.all fun k=>!(yL s2 bs).contains k):=by
    rw [h2]
    have:∀ l:List Nat,(∀ t∈l,s1 t=s2 t)→(l.all fun t=>(s1 t).live && (s1 t).toks.all fun k=>!(yL s2 bs).contains k)=(l.all fun t=>(s2 t).live && (s2 t).toks.all fun k=>!(yL s2 bs).contains k):=by
     intro l
     induction l with
     | nil=>intro _;rfl
     | cons x l ih=>intro h;simp only [List.all_cons,h x (by simp),ih fun t ht=>h t (by simp [ht])]
    exact this _ h1
   have h4:∀ k,(a.rds.any fun t=>(s1 t).toks.contains k)=(a.rds.any fun t=>(s2 t).toks.contains k):=by
    intro k
    have:∀ l:List Nat,(∀ t∈l,s1 t=s2 t)→(l.any fun t=>(s1 t).toks.contains k)=(l.any fun t=>(s2 t).toks.contains k):=by
     intro l
     induction l with
     | nil=>intro _;rfl
     | cons x l ih=>intro h;simp only [List.any_cons,h x (by simp),ih fun t ht=>h t (by simp [ht])]
    exact this _ h1
   simp only [yI,X.wrs,xj]
   simp only [h4]
   rw [uC (a:=a) h1,h3,h2]
   cases yi s2 a with
   | none=>trivial
   | some v=>
     simp only
     split
     · cases d with
       | none=>exact ⟨fun t ht=>absurd ht (by simp),fun t _=>⟨rfl,rfl⟩⟩
       | some d=>exact Z3 (by simp) (fun t ht=>.inl (by simpa using ht)) v
     · trivial
 | alloc z=>
   simp only [yI,X.wrs,xj]
   cases d with
   | none=>trivial
   | some d=>
     simp only
     rw [← hdl d (by simp)]
     split
     · exact Z3 (by simp) (fun t ht=>.inl (by simpa using ht)) _
     · trivial
 | box x=>
   simp only [yI,X.wrs,xj]
   rw [yH (x:=x) hxr]
   cases d with
   | none=>trivial
   | some d=>
     cases x.rd s2 with
     | none=>trivial
     | some v=>
       simp only
       rw [← hdl d (by simp)]
       split
       · split
         · exact Z3 (by simp) (fun t ht=>.inl (by simpa using ht)) _
         · trivial
       · trivial
 | mk n z z0=>
   simp only [yI,X.wrs,xj]
   rw [yH (x:=n) hxr]
   cases d with
   | none=>trivial
   | some d=>
     cases n.rd s2 with
     | none=>trivial
     | some v=>
       cases v with
       | int k m=>
         simp only
         rw [← hdl d (by simp)]
         split
         · split
           · exact Z3 (by simp) (fun t ht=>.inl (by simpa using ht)) _
           · trivial
         · trivial
       | _=>trivial
 | lit z len ps=>
   simp only [yI,X.wrs,xj]
   rw [w7 (ps:=ps) hxr]
   cases d with
   | none=>trivial
   | some d=>
     cases xz s2 ps (List.replicate len z) with
     | none=>trivial
     | some xs=>
       simp only
       rw [← hdl d (by simp)]
       split
       · exact Z3 (by simp) (fun t ht=>.inl (by simpa using ht)) _
       · trivial
 | litS z len ps=>
   simp only [yI,X.wrs,xj]
   rw [w7 (ps:=ps) hxr]
   cases d with
   | none=>trivial
   | some d=>
     cases xz s2 ps (List.replicate len z) with
     | none=>trivial
     | some xs=>
       simp only
       rw [← hdl d (by simp)]
       split
       · exact Z3 (by simp) (fun t ht=>.inl (by simpa using ht)) _
       · trivial
 | call f as=>exact Me hdl hxr
 | callO f as=>exact Me hdl hxr
 | appS g x y=>
   simp only [yI,X.wrs]
   rw [yH (x:=y) fun t ht=>hxr t (by simp [X.rds,ht])]
   cases d with
   | none=>trivial
   | some d=>
     have hsp:(∃ a1 a2 v,XM s1 x=some (a1,v)∧XM s2 x=some (a2,v)∧(∀ t∈x.rds,a1 t=a2 t)∧(∀ t,t∉x.rds→a1 t=s1 t∧a2 t=s2 t))∨(XM s1 x=none∧XM s2 x=none):=by
      cases x with
      | t r=>
        have e:s1 r=s2 r:=hxr r (by simp [X.rds,O.rds])
        have h0:∀ s:Nat→V,XM s (.t r)=(match s r with
         | .lin (.sl (.at r' p) h lo xs)=>if (decide (r'=r) && (V.tokss xs).isEmpty)=true then some (upd s r .dead,.sl (.at r' p) h lo xs) else none
         | .sl .nl h lo xs=>some (s,.sl .nl h lo xs)
         | _=>none):=fun _=>rfl
        rw [h0 s1,h0 s2,e]
        clear hxr
        generalize hw:s2 r=w
        split
        · split
          · left
            refine ⟨_,_,_,rfl,rfl,fun t ht=>?_,fun t ht=>?_⟩
            · have:t=r:=by simpa [O.rds] using ht
              subst this;simp
            · have:t≠r:=by rintro rfl;simp [O.rds] at ht
              rw [zL _ _ this,zL _ _ this];exact ⟨rfl,rfl⟩
          · exact .inr ⟨rfl,rfl⟩
        · left
          refine ⟨_,_,_,rfl,rfl,fun t ht=>?_,fun t _=>⟨rfl,rfl⟩⟩
          have:t=r:=by simpa [O.rds] using ht
          subst this;exact e
        · exact .inr ⟨rfl,rfl⟩
      | k u=>
        clear hl hxr h hw
        have h0:∀ s:Nat→V,XM s (.k u)=(match u with
         | .sl .nl h lo xs=>some (s,.sl .nl h lo xs)
         | _=>none):=fun _=>by
           cases u with
           | sl t _ _ _=>cases t <;> rfl
           | _=>rfl
        rw [h0 s1,h0 s2]
        split
        · exact .inl ⟨_,_,_,rfl,rfl,fun t ht=>by simp [O.rds] at ht,fun t _=>⟨rfl,rfl⟩⟩
        · exact .inr ⟨rfl,rfl⟩
     rcases hsp with ⟨a1,a2,v,e1,e2,h3,h4⟩ | ⟨e1,e2⟩
     · rw [e1,e2]
       cases v with
       | sl t g1 lo xs=>
         cases y.rd s2 with
         | none=>trivial
         | some yv=>
           cases yv with
           | sl t2 g2 lo2 ys=>
             simp only
             have hdd:a1 d=a2 d:=by
              by_cases hm:d∈x.rds
              · exact h3 d hm
              · rw [(h4 d hm).1,(h4 d hm).2];exact hdl d (by simp)
             rw [← hdd]
             split
             · split
               · refine ⟨fun k hk=>?_,fun k hk=>?_⟩
                 · by_cases e:k=d
                   · subst e;simp
                   · rw [zL _ _ e,zL _ _ e]
                     simp only [Option.toList_some,zG,xX] at hk
                     exact h3 k (hk.resolve_left e)
                 · simp only [Option.toList_some,zG,xX,not_or] at hk
                   rw [zL _ _ hk.1,zL _ _ hk.1]
                   exact h4 k hk.2
               · trivial
             · trivial
           | _=>trivial
       | _=>trivial
     · rw [e1,e2];trivial
theorem Lo {D:Den} {σ:Sig} {s1 s2:Nat→V} {i:I} (hl:i.x.loc=true) (h:∀ t∈i.rds,s1 t=s2 t):Mx i.wrs s1 s2 (step D σ s1 i) (step D σ s2 i):=by
 have h1:∀ t∈i.d.toList++i.x.rds,s1 t=s2 t:=fun t ht=>h t (by
  simp only [I.rds,zG] at ht ⊢
  rcases ht with ht | ht
  · exact .inl (.inl ht)
  · exact .inr ht)
 have hx:=zc1 (D:=D) (σ:=σ) (l:=i.l) hl h1
 unfold step
 cases hg:i.g with
 | none=>exact hx
 | some jw=>
   obtain ⟨j,want⟩:=jw
   simp only
   rw [← h j (by simp [I.rds,hg])]
   have sk:Mx i.wrs s1 s2 (some (put s1 i.d (.tup []))) (some (put s2 i.d (.tup []))):=by
    cases hd:i.d with
    | none=>exact ⟨fun t ht=>h t (by simp only [I.wrs,hd,I.rds,zG] at ht ⊢;rcases ht with ht | ht;simp at ht;right;cases hx':i.x <;> rw [hx'] at ht <;> simp only [X.wrs,X.rds] at ht ⊢ <;> first | (simp at ht;done) | (simp only [zG];first | exact .inl ht | exact .inr ht)),fun t _=>⟨rfl,rfl⟩⟩
    | some d=>
      have:=Z3 (s1:=s1) (s2:=s2) (d:=d) (W:=[d]) (by simp) (fun t ht=>.inl (by simpa using ht)) (.tup [])
      refine this.widen (by simp [I.wrs,hd]) ?_
      intro t ht
      refine h t ?_
      simp only [I.wrs,hd,I.rds,zG] at ht ⊢
      rcases ht with ht | ht
      · exact .inl (.inl ht)
      · right
        cases hx':i.x <;> rw [hx'] at ht <;> simp only [X.wrs,X.rds] at ht ⊢ <;> first | (simp at ht;done) | (simp only [zG];first | exact .inl ht | exact .inr ht)
   split
   · split
     · exact hx
     · exact sk
   · exact sk
   · trivial
def I.apart1 (i j:I):Bool:=i.x.loc && j.x.loc && i.wrs.all (fun t=>!j.rds.contains t && !j.wrs.contains t) && j.wrs.all (fun t=>!i.rds.contains t)
theorem zdQ {D:Den} {σ:Sig} {s s1 s2:Nat→V} {i j:I} (h:i.apart1 j=true) (h1:step D σ s i=some s1) (h2:step D σ s1 j=some s2) :
    ∃ s1',step D σ s j=some s1'∧step D σ s1' i=some s2:=by
 simp only [I.apart1,zl,yE,xk] at h
 obtain ⟨⟨⟨hli,hlj⟩,hij⟩,hji⟩:=h
 have hij1:∀ t∈i.wrs,t∉j.rds:=fun t ht=>by have:=(hij t ht).1;simpa using this
 have hij2:∀ t∈i.wrs,t∉j.wrs:=fun t ht=>by have:=(hij t ht).2;simpa using this
 have hji1:∀ t∈j.wrs,t∉i.rds:=fun t ht=>by have:=hji t ht;simpa using this
 have e1:∀ t,t∉i.wrs→s1 t=s t:=by
  have:=Lo (D:=D) (σ:=σ) (s1:=s) (s2:=s) (i:=i) hli (fun t _=>rfl)
  rw [h1] at this
  exact fun t ht=>(this.2 t ht).1
 have hj:=Lo (D:=D) (σ:=σ) (s1:=s1) (s2:=s) (i:=j) hlj (fun t ht=>e1 t (fun hm=>hij1 t hm ht))
 rw [h2] at hj
 cases hj':step D σ s j with
 | none=>rw [hj'] at hj;exact hj.elim
 | some s1'=>
   rw [hj'] at hj
   refine ⟨s1',rfl,?_⟩
   have hi:=Lo (D:=D) (σ:=σ) (s1:=s) (s2:=s1') (i:=i) hli (fun t ht=>((hj.2 t (fun hm=>hji1 t hm ht)).2).symm)
   rw [h1] at hi
   cases hi':step D σ s1' i with
   | none=>rw [hi'] at hi;exact hi.elim
   | some s2'=>
     rw [hi'] at hi
     congr 1
     funext t
     by_cases ht:t∈i.wrs
     · rw [← hi.1 t ht,(hj.2 t (hij2 t ht)).1]
     · rw [(hi.2 t ht).2]
       by_cases ht2:t∈j.wrs
       · exact (hj.1 t ht2).symm
       · rw [(hj.2 t ht2).2,(hj.2 t ht2).1,e1 t ht]
def I.apart2 (i j:I):Bool:=match i,j with
 | ⟨some d,none,_,.v (.extS (.t a) _)⟩,⟨none,none,_,.store _ (.t b) (.t c)⟩=>decide (d≠a) && (decide (d≠b) && decide (d≠c))
 | _,_=>false
theorem zcX {tk:Tok} {i:Nat} {q:List Nat} {u:V}:∀ (vs:List V) (k:Nat),(V.muts tk i q u vs)[k]?=(vs[k]?).map (V.mut tk i q u)
 | [],k=>by simp [V.muts]
 | v :: vs,0=>by simp [V.muts]
 | v :: vs,k + 1=>by simp [V.muts,zcX vs k]
theorem zdw {D:Den} {σ:Sig} {s s1 s2:Nat→V} {i j:I} (h:i.apart2 j=true) (h1:step D σ s i=some s1) (h2:step D σ s1 j=some s2) :
    ∃ s1',step D σ s j=some s1'∧step D σ s1' i=some s2:=by
 unfold I.apart2 at h
 split at h
 · rename_i d l a k l2 g b c
   simp only [zl,ye] at h
   obtain ⟨ha,hb,hc⟩:=h
   simp only [step,yI] at h1
   cases he:yi s (.extS (.t a) k) with
   | none=>rw [he] at h1;cases h1
   | some v=>
     rw [he] at h1
     simp [put] at h1
     subst h1
     have hrd:∀ t,d≠t→(O.t t).rd (upd s d v)=(O.t t).rd s:=by
      intro t ht
      exact yH (x:=.t t) fun t' ht'=>by
       have:t'=t:=by simpa [O.rds] using ht'
       subst this;exact zL _ _ (Ne.symm ht)
     simp only [step,yI] at h2 ⊢
     rw [hrd b hb,hrd c hc] at h2
     split at h2
     · rename_i t' i' q' c' v' h3 h4
       split at h2
       · rename_i hcond
         simp only [zg] at h2
         subst h2
         try simp only [h3,h4]
         rw [if_pos hcond]
         refine ⟨_,rfl,?_⟩
         simp only [yi] at he ⊢
         split at he
         · rename_i vs hvs
           have hsa:s a = .tup vs:=by
            unfold O.rd at hvs
            by_cases hk:(O.ev s (.t a)).ok=true
            · rw [if_pos hk] at hvs;simpa [O.ev] using hvs
            · rw [if_neg hk] at hvs;cases hvs
           have hvs2:(O.t a).rd (WF t' i' q' v' s)=some (.tup (V.muts t' i' q' v' vs)):=by
            simp only [O.rd,O.ev,WF,hsa,V.mut,V.ok,if_true]
           rw [hvs2]
           simp only [zcX]
           split at he
           · rename_i k' n' hk
             simp only [zg] at he;subst he
             rw [hk]
             simp only [ym,V.mut,put,zg]
             funext t
             by_cases e:t=d
             · subst e;simp [WF,V.mut]
             · rw [zL _ _ e];simp only [WF];rw [zL _ _ e]
           · rename_i b' hk
             simp only [zg] at he;subst he
             rw [hk]
             simp only [ym,V.mut,put,zg]
             funext t
             by_cases e:t=d
             · subst e;simp [WF,V.mut]
             · rw [zL _ _ e];simp only [WF];rw [zL _ _ e]
           · cases he
         · cases he
       · cases h2
     · cases h2
 · cases h
def I.apart3 (i j:I):Bool:=match i,j with
 | ⟨some d,none,_,.v (.mov (.t a))⟩,⟨some e,none,_,.copy (.t b) (.t c)⟩=>decide (d≠b) && (decide (d≠c) && (decide (d≠e) && decide (a≠e)))
 | _,_=>false
theorem zmG {tk:Tok} {i:Nat} {q:List Nat} {u v:V}:(V.mut tk i q u v).ok=v.ok:=by
 cases v with
 | sl t h lo xs=>
   cases t with
   | sh=>simp only [V.mut]
   | bx r=>simp only [V.mut];split <;> rfl
   | «at» r p=>simp only [V.mut];split <;> rfl
   | nl=>simp only [V.mut];split <;> rfl
 | ref t k p c=>
   cases t with
   | sh=>simp only [V.mut]
   | bx r=>simp only [V.mut];split;split;all_goals rfl
   | «at» r p=>simp only [V.mut];split;split;all_goals rfl
   | nl=>simp only [V.mut];split;split;all_goals rfl
 | _=>simp only [V.mut,V.ok]
theorem Qa {tk:Tok} {a:Nat}:∀ (us:List V) (lo:Nat) (s:Nat→V) (v:V),(O.t a).rd s=some v →
    ∃ v',(O.t a).rd (UR tk lo us s)=some v'∧∀ d,UR tk lo us (upd s d v)=upd (UR tk lo us s) d v'
 | [],lo,s,v,h=>⟨v,h,fun _=>rfl⟩
 | u :: us,lo,s,v,h=>by
   have h1:(O.t a).rd (WF tk lo [] u s)=some (V.mut tk lo [] u v):=by
    unfold O.rd at h ⊢
    by_cases hk:(O.ev s (.t a)).ok=true
    · rw [if_pos hk] at h
      simp only [zg] at h
      rw [if_pos (by simp only [O.ev,WF,zmG];exact hk),← h]
      rfl
    · rw [if_neg hk] at h;cases h
   obtain ⟨v',h2,h3⟩:=Qa us (lo + 1) _ _ h1
   refine ⟨v',h2,fun d=>?_⟩
   rw [show UR tk lo (u :: us) (upd s d v)=UR tk (lo + 1) us (WF tk lo [] u (upd s d v)) from rfl,show UR tk lo (u :: us) s=UR tk (lo + 1) us (WF tk lo [] u s) from rfl,← h3 d]
   congr 1
   funext t
   by_cases e:t=d
   · subst e;simp [WF]
   · rw [zL _ _ e];simp only [WF];rw [zL _ _ e]
theorem zdG {D:Den} {σ:Sig} {s s1 s2:Nat→V} {i j:I} (h:i.apart3 j=true) (h1:step D σ s i=some s1) (h2:step D σ s1 j=some s2) :
    ∃ s1',step D σ s j=some s1'∧step D σ s1' i=some s2:=by
 unfold I.apart3 at h
 split at h
 · rename_i d l a e l2 b c
   simp only [zl,ye] at h
   obtain ⟨hb,hc,he,ha⟩:=h
   simp only [step,yI,yi] at h1
   cases hv:(O.t a).rd s with
   | none=>rw [hv] at h1;cases h1
   | some v=>
     rw [hv] at h1
     simp [put] at h1
     subst h1
     have hrd:∀ t,d≠t→(O.t t).rd (upd s d v)=(O.t t).rd s:=by
      intro t ht
      exact yH (x:=.t t) fun t' ht'=>by
       have:t'=t:=by simpa [O.rds] using ht'
       subst this;exact zL _ _ (Ne.symm ht)
     simp only [step,yI] at h2 ⊢
     rw [hrd b hb,hrd c hc] at h2
     split at h2
     · rename_i r p g lo xs t2 g2 lo2 ys h3 h4
       split at h2
       · rename_i hcond
         simp only [zg] at h2
         subst h2
         try simp only [h3,h4]
         rw [if_pos hcond]
         obtain ⟨v',h5,h6⟩:=Qa (tk:=.at r p) (ys.take xs.length) lo s v hv
         refine ⟨_,rfl,?_⟩
         simp only [put,yi]
         have h7:(O.t a).rd (upd (UR (.at r p) lo (ys.take xs.length) s) e (.int .i64 (min ys.length xs.length:Nat)))=some v':=by
          rw [← h5]
          exact yH (x:=.t a) fun t' ht'=>by
           have:t'=a:=by simpa [O.rds] using ht'
           subst this;exact zL _ _ ha
         rw [h7,h6 d,ym,zg]
         funext t
         simp only [put]
         by_cases e1:t=d
         · subst e1;rw [zL _ _ he];simp
         · by_cases e2:t=e
           · subst e2;rw [zL _ _ e1];simp
           · rw [zL _ _ e1,zL _ _ e2,zL _ _ e2,zL _ _ e1]
       · cases h2
     · cases h2
 · cases h
mutual
theorem Wu {ks:List Tok} (hn:ks.contains .nl=false):∀ v:V,(∀ k∈v.toks,ks.contains k=false)→V.map (uk ks) v=v
 | .dead,_ | .gone,_ | .int ..,_ | .bool _,_=>rfl
 | .lin v,h=>by simp only [V.map];rw [Wu hn v (by simpa [V.toks] using h)]
 | .agg vs,h=>by simp only [V.map];rw [Yn hn vs (by simpa [V.toks] using h)]
 | .tup vs,h=>by simp only [V.map];rw [Yn hn vs (by simpa [V.toks] using h)]
 | .fn g fs env,h=>by simp only [V.map];rw [Yn hn fs fun k hk=>h k (by simp [V.toks,hk]),Yn hn env fun k hk=>h k (by simp [V.toks,hk])]
 | .ref t i q c,h=>by
   cases t with
   | sh=>rfl
   | nl=>simp only [V.map,uk,hn];rw [Wu hn c fun k hk=>h k (by simp [V.toks,hk])];rfl
   | «at» r p=>
     have h1:=h (.at r p) (by simp [V.toks])
     simp only [V.map,uk,h1];rw [Wu hn c fun k hk=>h k (by simp [V.toks,hk])];rfl
   | bx r=>
     have h1:=h (.bx r) (by simp [V.toks])
     simp only [V.map,uk,h1];rw [Wu hn c fun k hk=>h k (by simp [V.toks,hk])];rfl
 | .sl t g lo xs,h=>by
   cases t with
   | sh=>rfl
   | nl=>
     simp only [V.map,uk,hn]
     by_cases hf:g.flat=true
     · simp [hf]
     · have hf:g.flat=false:=by simpa using hf
       simp only [hf]
       rw [Yn hn xs fun k hk=>h k (by simp [V.toks,hf,hk])];rfl
   | «at» r p=>
     have h1:=h (.at r p) (by simp [V.toks])
     simp only [V.map,uk,h1]
     by_cases hf:g.flat=true
     · simp [hf]
     · have hf:g.flat=false:=by simpa using hf
       simp only [hf]
       rw [Yn hn xs fun k hk=>h k (by simp [V.toks,hf,hk])];rfl
   | bx r=>
     have h1:=h (.bx r) (by simp [V.toks])
     simp only [V.map,uk,h1]
     by_cases hf:g.flat=true
     · simp [hf]
     · have hf:g.flat=false:=by simpa using hf
       simp only [hf]
       rw [Yn hn xs fun k hk=>h k (by simp [V.toks,hf,hk])];rfl
theorem Yn {ks:List Tok} (hn:ks.contains .nl=false):∀ vs:List V,(∀ k∈V.tokss vs,ks.contains k=false)→V.maps (uk ks) vs=vs
 | [],_=>rfl
 | v :: vs,h=>by simp only [V.maps];rw [Wu hn v fun k hk=>h k (by simp [V.tokss,hk]),Yn hn vs fun k hk=>h k (by simp [V.tokss,hk])]
end
theorem MP {s1 s2:Nat→V}:∀ {l:List Nat},(∀ t∈l,s1 t=s2 t)→yL s1 l=yL s2 l
 | [],_=>rfl
 | x :: l,h=>by
   have:=MP (l:=l) fun t ht=>h t (by simp [ht])
   unfold yL at this ⊢
   simp only [List.flatMap_cons,h x (by simp),this]
theorem LQ {s1 s2:Nat→V}:∀ {l:List Nat} {v:V},(∀ t∈l,s1 t=s2 t)→ZS s1 l v=ZS s2 l v
 | [],_,_=>rfl
 | b :: l,v,h=>by
   have h1:=h b (by simp)
   have h2:∀ v,ZS s1 l v=ZS s2 l v:=fun v=>LQ fun t ht=>h t (by simp [ht])
   cases v with
   | ref t0 i q c0=>
     cases t0 with
     | bx r=>simp only [ZS,h1,h2]
     | _=>rfl
   | _=>rfl
theorem LJ {s1 s2:Nat→V} {ks:List Tok}:∀ {l:List Nat} {us:List V},(∀ t∈l,s1 t=s2 t)→Xu s1 ks l us=Xu s2 ks l us
 | [],us,_=>by cases us <;> rfl
 | b :: l,[],_=>rfl
 | b :: l,u :: us,h=>by
   simp only [Xu,h b (by simp),LJ (l:=l) (us:=us) fun t ht=>h t (by simp [ht])]
theorem Xs {D:Den} {σ:Sig} {s1 s2:Nat→V} {f:O} {args:List O} {bs:List Nat} (h:∀ t∈f.rds++args.flatMap O.rds++bs,s1 t=s2 t):WJ D σ s1 f args bs []=WJ D σ s2 f args bs []:=by
 have h1:f.rd s1=f.rd s2:=yH fun t ht=>h t (by simp [ht])
 have h2:Zs s1 args=Zs s2 args:=Yt fun t ht=>h t (by rw [zG,zG];exact .inl (.inr ht))
 have hb:∀ t∈bs,s1 t=s2 t:=fun t ht=>h t (by simp [ht])
 have h3:yL s1 (bs++[])=yL s2 (bs++[]):=MP (by simpa using hb)
 have h4:ZS s1 bs=ZS s2 bs:=funext fun v=>LQ hb
 have h5:Xu s1 (yL s2 (bs++[])) bs=Xu s2 (yL s2 (bs++[])) bs:=funext fun us=>LJ hb
 unfold WJ
 rw [h1,h2,h3,h4,h5]
 rfl
theorem MG {D:Den} {σ:Sig} {s:Nat→V} {f:O} {args:List O} {bs:List Nat} {p:List Tok×List (Nat×Nat×List Nat×V)×V} (h:WJ D σ s f args bs []=some p):p.1=yL s bs∧∃ us,Xu s p.1 bs us=some p.2.1:=by
 unfold WJ at h
 repeat' split at h
 all_goals first
  | (cases h;done)
  | (simp only [zU] at h
     obtain ⟨l,hl,rfl⟩:=h
     exact ⟨by simp,_,hl⟩)
theorem M5 {ks:List Tok} {l:List (Nat×Nat×List Nat×V)} {v:V} (hn:ks.contains .nl=false) (hl:∀ e∈l,ks.contains (.bx e.1)=true) (h:∀ k∈v.toks,ks.contains k=false):upG ks l v=v:=by
 rcases WQ (ks:=ks) (l:=l) v with ⟨e,he,c,rfl,_⟩ | h1
 · have h2:=h (.bx e.1) (by simp [V.toks])
   rw [hl e he] at h2;cases h2
 · rw [h1];exact Wu hn v h
mutual
theorem X5 {ks:List Tok} (hn:ks.contains .nl=false):∀ v:V,(V.map (uk ks) v).live=true→∀ k∈v.toks,ks.contains k=false
 | .dead,h | .gone,h=>by simp [V.map,V.live] at h
 | .int ..,_ | .bool _,_=>by intro k hk;simp [V.toks] at hk
 | .lin v,h=>by simp only [V.map,V.live] at h;simpa [V.toks] using X5 hn v h
 | .agg vs,h=>by simp only [V.map,V.live] at h;simpa [V.toks] using Zi hn vs h
 | .tup vs,h=>by simp only [V.map,V.live] at h;simpa [V.toks] using Zi hn vs h
 | .fn g fs env,h=>by
   simp only [V.map,V.live,zl] at h
   intro k hk
   simp only [V.toks,zG] at hk
   rcases hk with hk | hk
   · exact Zi hn fs h.1 k hk
   · exact Zi hn env h.2 k hk
 | .ref t i q c,h=>by
   cases t with
   | sh=>intro k hk;simp [V.toks] at hk
   | nl=>
     simp only [V.map,uk,hn] at h
     simp [V.live] at h
     simpa [V.toks] using X5 hn c h
   | «at» r p=>
     simp only [V.map,uk] at h
     cases hc:ks.contains (.at r p) with
     | true=>rw [hc] at h;simp [V.live] at h
     | false=>
       rw [hc] at h
       simp [V.live] at h
       intro k hk
       simp only [V.toks,zW] at hk
       rcases hk with rfl | hk
       · exact hc
       · exact X5 hn c h k hk
   | bx r=>
     simp only [V.map,uk] at h
     cases hc:ks.contains (.bx r) with
     | true=>rw [hc] at h;simp [V.live] at h
     | false=>
       rw [hc] at h
       simp [V.live] at h
       intro k hk
       simp only [V.toks,zW] at hk
       rcases hk with rfl | hk
       · exact hc
       · exact X5 hn c h k hk
 | .sl t g lo xs,h=>by
   cases t with
   | sh=>intro k hk;simp [V.toks] at hk
   | nl=>
     simp only [V.map,uk,hn] at h
     intro k hk
     by_cases hf:g.flat=true
     · simp [V.toks,hf] at hk
     · have hf:g.flat=false:=by simpa using hf
       simp [V.live,hf] at h
       simp [V.toks,hf] at hk
       exact Zi hn xs h k hk
   | «at» r p=>
     simp only [V.map,uk] at h
     cases hc:ks.contains (.at r p) with
     | true=>rw [hc] at h;simp [V.live] at h
     | false=>
       rw [hc] at h
       intro k hk
       by_cases hf:g.flat=true
       · simp [V.toks,hf] at hk;rw [hk];exact hc
       · have hf:g.flat=false:=by simpa using hf
         simp [V.live,hf] at h
         simp [V.toks,hf] at hk
         rcases hk with rfl | hk
         · exact hc
         · exact Zi hn xs h k hk
   | bx r=>
     simp only [V.map,uk] at h
     cases hc:ks.contains (.bx r) with
     | true=>rw [hc] at h;simp [V.live] at h
     | false=>
       rw [hc] at h
       intro k hk
       by_cases hf:g.flat=true
       · simp [V.toks,hf] at hk;rw [hk];exact hc
       · have hf:g.flat=false:=by simpa using hf
         simp [V.live,hf] at h
         simp [V.toks,hf] at hk
         rcases hk with rfl | hk
         · exact hc
         · exact Zi hn xs h k hk
theorem Zi {ks:List Tok} (hn:ks.contains .nl=false):∀ vs:List V,V.lives (V.maps (uk ks) vs)=true→∀ k∈V.tokss vs,ks.contains k=false
 | [],_=>by intro k hk;simp [V.tokss] at hk
 | v :: vs,h=>by
   simp only [V.maps,V.lives,zl] at h
   intro k hk
   simp only [V.tokss,zG] at hk
   rcases hk with hk | hk
   · exact X5 hn v h.1 k hk
   · exact Zi hn vs h.2 k hk
end
def I.apart4 (i j:I):Bool:=match i,j with
 | ⟨some d,none,_,.vN a bs⟩,⟨some e,none,_,.callT f args bs' []⟩=>decide (bs'=bs) && (!(f.rds++args.flatMap O.rds++bs).contains d && (decide (d≠e) && (!a.rds.contains e && !bs.contains e)))
 | ⟨some e,none,_,.callT f args bs []⟩,⟨some d,none,_,.v (.mov (.t a))⟩=>!(f.rds++args.flatMap O.rds++bs).contains d && (decide (d≠e) && decide (a≠e))
 | ⟨some d,none,_,.v (.mov (.t a))⟩,⟨some e,none,_,.callT f args bs []⟩=>!(f.rds++args.flatMap O.rds++bs).contains d && (decide (d≠e) && decide (a≠e))
 | ⟨some e,none,_,.callT f args bs' []⟩,⟨some d,none,_,.vN a bs⟩=>decide (bs'=bs) && (!(f.rds++args.flatMap O.rds++bs).contains d && (decide (d≠e) && (!a.rds.contains e && !bs.contains e)))
 | ⟨some d,none,_,.litS _ _ ps⟩,⟨some e,none,_,.callT f args bs []⟩=>(ps.all fun p=>p.2.2.rds.isEmpty) && (!(f.rds++args.flatMap O.rds++bs).contains d && decide (d≠e))
 | _,_=>false
theorem zdm {D:Den} {σ:Sig} {s s1 s2:Nat→V} {i j:I} (h:i.apart4 j=true) (h1:step D σ s i=some s1) (h2:step D σ s1 j=some s2) :
    ∃ s1',step D σ s j=some s1'∧step D σ s1' i=some s2:=by
 unfold I.apart4 at h
 split at h
 · rename_i d l a bs e l2 f args bs'
   simp only [zl,ye,xk] at h
   obtain ⟨rfl,hd,hde,hea,heb⟩:=h
   have hd':∀ t∈f.rds++args.flatMap O.rds++bs',t≠d:=by
    rintro t ht rfl
    have:=wD.2 ht
    rw [this] at hd;cases hd
   have hea':∀ t∈a.rds,t≠e:=by
    rintro t ht rfl
    have:=wD.2 ht
    rw [this] at hea;cases hea
   have heb':∀ t∈bs',t≠e:=by
    rintro t ht rfl
    have:=wD.2 ht
    rw [this] at heb;cases heb
   simp only [step,yI] at h1 h2 ⊢
   split at h1
   case h_2=>cases h1
   rename_i v hv
   split at h1
   case isFalse=>cases h1
   rename_i hchk
   simp only [zg,put] at h1
   subst h1
   simp only [Ks] at h2 ⊢
   rw [Xs (s2:=s) fun t ht=>zL _ _ (hd' t ht)] at h2
   cases hc:WJ D σ s f args bs' [] with
   | none=>rw [hc] at h2;cases h2
   | some p=>
     obtain ⟨hp,us,hl⟩:=MG hc
     obtain ⟨hl1,hl2⟩:=U5 hl
     rw [hc] at h2
     simp only [ym,zg,put] at h2 ⊢
     subst h2
     refine ⟨_,rfl,?_⟩
     obtain ⟨ks,lb,r⟩:=p
     simp only at hp hl hl1 hl2 ⊢
     have hsub:∀ b∈bs',∀ k∈(s b).toks,ks.contains k=true:=by
      intro b hb k hk
      rw [hp]
      exact wD.2 (List.mem_flatMap.2 ⟨b,hb,hk⟩)
     have hn:ks.contains .nl=false:=by
      cases hb:ks.contains .nl with
      | false=>rfl
      | true=>
        have:=wD.1 hb
        rw [hp] at this
        obtain ⟨b,_,hk⟩:=XW this
        exact absurd rfl (Za _ _ hk).2
     have hlb:∀ en∈lb,ks.contains (.bx en.1)=true:=by
      intro en hen
      obtain ⟨b,hb,c,t',c',hs,_⟩:=hl1 en hen
      exact hsub b hb _ (by rw [hs];simp [V.toks])
     simp only [zl,yE,xk] at hchk
     rw [← hp] at hchk
     have hfree:∀ t∈a.rds,upG ks lb (s t)=s t:=fun t ht=>M5 hn hlb fun k hk=>(hchk.1 t ht).2 k hk
     have hev:yi (upd (fun t=>upG ks lb (s t)) e r) a=some v:=by
      rw [← hv]
      exact uC fun t ht=>by rw [zL _ _ (hea' t ht),hfree t ht]
     have hst:∀ k∈yL (upd (fun t=>upG ks lb (s t)) e r) bs',ks.contains k=true:=by
      intro k hk
      obtain ⟨b,hb,hkb⟩:=XW hk
      rw [zL _ _ (heb' b hb)] at hkb
      rcases WQ (ks:=ks) (l:=lb) (s b) with ⟨en,hen,_,_,h⟩ | h
      · rw [h] at hkb
        obtain ⟨b1,_,c0,t',c',_,_,h6,h7⟩:=hl1 en hen
        rw [h7] at hkb
        obtain ⟨k0,h0,e0⟩:=Wi (XS ks) rfl _ k hkb
        exact wD.2 (Zf (Za _ k0 h0).2 e0).1
      · rw [h] at hkb
        have hkk:=W2 (p:=fun k=>ks.contains k) hn hkb
        exact hsub b hb k hkk.1
     rw [hev]
     simp only
     rw [if_pos ?_]
     · simp only [zg,put]
       funext t
       by_cases e1:t=d
       · subst e1
         rw [upd_same,zL _ _ hde,upd_same]
         exact (M5 hn hlb fun k hk=>(hchk.2 k hk).1).symm
       · rw [zL _ _ e1]
         by_cases e2:t=e
         · subst e2;rw [upd_same,upd_same]
         · rw [zL _ _ e2,zL _ _ e2,zL _ _ e1]
     · simp only [zl,yE,xk]
       have hno:∀ k,ks.contains k=false→(yL (upd (fun t=>upG ks lb (s t)) e r) bs').contains k=false:=by
        intro k hk
        cases hb:(yL (upd (fun t=>upG ks lb (s t)) e r) bs').contains k with
        | false=>rfl
        | true=>rw [hst k (wD.1 hb)] at hk;cases hk
       refine ⟨fun t ht=>⟨?_,fun k hk=>hno k ((hchk.1 t ht).2 k ?_)⟩,fun k hk=>⟨hno k (hchk.2 k hk).1,?_⟩⟩
       · rw [zL _ _ (hea' t ht),hfree t ht];exact (hchk.1 t ht).1
       · rw [zL _ _ (hea' t ht),hfree t ht] at hk
         exact hk
       · obtain ⟨t,ht,h3⟩:=Y4.1 (hchk.2 k hk).2
         exact Y4.2 ⟨t,ht,by rw [zL _ _ (hea' t ht),hfree t ht];exact h3⟩
 · rename_i e l2 f args bs d l a
   simp only [zl,ye,xk] at h
   obtain ⟨hd,hde,hae⟩:=h
   have hd':∀ t∈f.rds++args.flatMap O.rds++bs,t≠d:=by
    rintro t ht rfl
    have:=wD.2 ht
    rw [this] at hd;cases hd
   simp only [step,yI,Ks] at h1 h2 ⊢
   cases hc:WJ D σ s f args bs [] with
   | none=>rw [hc] at h1;cases h1
   | some p=>
     rw [hc] at h1
     simp only [ym,zg,put] at h1
     subst h1
     simp only [yi,O.rd,O.ev] at h2 ⊢
     simp only [zL _ _ hae] at h2
     have hok:(s a).ok=true:=by
      by_cases hk:(upG p.1 p.2.1 (s a)).ok=true
      · rcases WQ (ks:=p.1) (l:=p.2.1) (s a) with ⟨en,_,c,hs,_⟩ | h
        · rw [hs];rfl
        · rw [h] at hk
          cases hs:s a with
          | lin v=>rw [hs] at hk;simp [V.map,V.ok] at hk
          | gone=>rw [hs] at hk;simp [V.map,V.ok] at hk
          | _=>rfl
      · simp only [hk] at h2
        simp at h2
     simp only [hok,if_true,ym]
     refine ⟨_,rfl,?_⟩
     rw [Xs (s2:=s) fun t ht=>by simp only [put];exact zL _ _ (hd' t ht),hc]
     simp only [ym]
     by_cases hk:(upG p.1 p.2.1 (s a)).ok=true
     · simp only [hk,if_true,ym,zg,put] at h2 ⊢
       subst h2
       funext t
       by_cases e1:t=d
       · subst e1
         rw [zL _ _ hde,upd_same,upd_same]
       · rw [zL _ _ e1]
         by_cases e2:t=e
         · subst e2;rw [upd_same,upd_same]
         · rw [zL _ _ e2,zL _ _ e2,zL _ _ e1]
     · simp only [hk] at h2;simp at h2
 · rename_i d l a e l2 f args bs
   simp only [zl,ye,xk] at h
   obtain ⟨hd,hde,hae⟩:=h
   have hd':∀ t∈f.rds++args.flatMap O.rds++bs,t≠d:=by
    rintro t ht rfl
    have:=wD.2 ht
    rw [this] at hd;cases hd
   simp only [step,yI,Ks,yi,O.rd,O.ev] at h1 h2 ⊢
   by_cases hok:(s a).ok=true
   · simp only [hok,if_true,ym,zg,put] at h1
     subst h1
     rw [Xs (s2:=s) fun t ht=>zL _ _ (hd' t ht)] at h2
     cases hc:WJ D σ s f args bs [] with
     | none=>rw [hc] at h2;cases h2
     | some p=>
       rw [hc] at h2
       simp only [ym,zg,put] at h2 ⊢
       subst h2
       refine ⟨_,rfl,?_⟩
       have hk:(upG p.1 p.2.1 (s a)).ok=true:=by
        rcases WQ (ks:=p.1) (l:=p.2.1) (s a) with ⟨en,hen,c,hs,he⟩ | h
        · obtain ⟨_,us,hl⟩:=MG hc
          obtain ⟨_,_,_,t',c',_,_,_,h7⟩:=(U5 hl).1 en hen
          rw [he,h7]
          simp only [V.map]
          repeat' split
          all_goals rfl
        · rw [h]
          cases hs:s a with
          | lin v=>rw [hs] at hok;simp [V.ok] at hok
          | gone=>rw [hs] at hok;simp [V.ok] at hok
          | sl t g lo xs=>cases t <;> simp only [V.map] <;> (repeat' split) <;> rfl
          | ref t i q c=>cases t <;> simp only [V.map] <;> (repeat' split) <;> rfl
          | _=>rfl
       simp only [zL _ _ hae,hk,if_true,ym,zg,put]
       funext t
       by_cases e1:t=d
       · subst e1
         rw [upd_same,zL _ _ hde,upd_same]
       · rw [zL _ _ e1]
         by_cases e2:t=e
         · subst e2;rw [upd_same,upd_same]
         · rw [zL _ _ e2,zL _ _ e2,zL _ _ e1]
   · simp only [hok] at h1
     simp at h1
 · rename_i e l2 f args bs' d l a bs
   simp only [zl,ye,xk] at h
   obtain ⟨rfl,hd,hde,hea,heb⟩:=h
   have hd':∀ t∈f.rds++args.flatMap O.rds++bs',t≠d:=by
    rintro t ht rfl
    have:=wD.2 ht
    rw [this] at hd;cases hd
   have hea':∀ t∈a.rds,t≠e:=by
    rintro t ht rfl
    have:=wD.2 ht
    rw [this] at hea;cases hea
   have heb':∀ t∈bs',t≠e:=by
    rintro t ht rfl
    have:=wD.2 ht
    rw [this] at heb;cases heb
   simp only [step,yI,Ks] at h1 h2 ⊢
   cases hc:WJ D σ s f args bs' [] with
   | none=>rw [hc] at h1;cases h1
   | some p=>
     obtain ⟨hp,us,hl⟩:=MG hc
     obtain ⟨hl1,hl2⟩:=U5 hl
     rw [hc] at h1
     simp only [ym,zg,put] at h1
     subst h1
     obtain ⟨ks,lb,r⟩:=p
     simp only at hp hl hl1 hl2 h2 ⊢
     have hsub:∀ b∈bs',∀ k∈(s b).toks,ks.contains k=true:=by
      intro b hb k hk
      rw [hp]
      exact wD.2 (List.mem_flatMap.2 ⟨b,hb,hk⟩)
     have hn:ks.contains .nl=false:=by
      cases hb:ks.contains .nl with
      | false=>rfl
      | true=>
        have:=wD.1 hb
        rw [hp] at this
        obtain ⟨b,_,hk⟩:=XW this
        exact absurd rfl (Za _ _ hk).2
     have hlb:∀ en∈lb,ks.contains (.bx en.1)=true:=by
      intro en hen
      obtain ⟨b,hb,c,t',c',hs,_⟩:=hl1 en hen
      exact hsub b hb _ (by rw [hs];simp [V.toks])
     split at h2
     case h_2=>cases h2
     rename_i v hv
     split at h2
     case isFalse=>cases h2
     rename_i hchk
     simp only [zg,put] at h2
     subst h2
     simp only [zl,yE,xk] at hchk
     have hsame:∀ t∈a.rds,upG ks lb (s t)=s t∧∀ k∈(s t).toks,ks.contains k=false:=by
      intro t ht
      obtain ⟨c1,c2⟩:=hchk.1 t ht
      rw [zL _ _ (hea' t ht)] at c1 c2
      rcases WQ (ks:=ks) (l:=lb) (s t) with ⟨en,hen,c,hs,he⟩ | h
      · exfalso
        obtain ⟨b,hb,c0,t',c',h5,_,h6,h7⟩:=hl1 en hen
        have hsome:(lb.find? fun e=>e.1 == en.1 && (e.2.1 == en.2.1 && e.2.2.1 == en.2.2.1)).isSome=true:=by
         rw [List.find?_isSome]
         exact ⟨en,hen,by simp⟩
        obtain ⟨e0,he0⟩:=Option.isSome_iff_exists.1 hsome
        have u1:upG ks lb (s t)=e0.2.2.2:=by rw [hs];simp only [upG,he0]
        have u2:upG ks lb (s b)=e0.2.2.2:=by rw [h5];simp only [upG,he0]
        obtain ⟨b1,hb1,c1',t1',c2',g5,_,g6,g7⟩:=hl1 e0 (List.mem_of_find?_eq_some he0)
        have hmem:Tok.bx e0.1∈e0.2.2.2.toks:=by
         rw [g7]
         cases t1' with
         | sh=>
           have:=(Xy ⟨by simp,by simp⟩ (Zf (by simp) g6).2).2.1
           simp [Tok.pinned,Tok.root?] at this
         | nl=>simp [XS] at g6
         | «at» r p=>simp only [V.map,g6];simp [V.toks]
         | bx r=>simp only [V.map,g6];simp [V.toks]
        have k1:=c2 (.bx e0.1) (by rw [u1];exact hmem)
        have k2:Tok.bx e0.1∈yL (upd (fun t=>upG ks lb (s t)) e r) bs':=List.mem_flatMap.2 ⟨b,hb,by rw [zL _ _ (heb' b hb),u2];exact hmem⟩
        rw [wD.2 k2] at k1;cases k1
      · rw [h] at c1
        have hk:=X5 hn _ c1
        exact ⟨by rw [h];exact Wu hn _ hk,hk⟩
     have hev:yi s a=some v:=by
      rw [← hv]
      exact uC fun t ht=>by rw [zL _ _ (hea' t ht),(hsame t ht).1]
     have hvk:∀ k∈v.toks,ks.contains k=false∧∃ t∈a.rds,(s t).toks.contains k=true:=by
      intro k hk
      obtain ⟨t,ht,h3⟩:=Y4.1 (hchk.2 k hk).2
      rw [zL _ _ (hea' t ht),(hsame t ht).1] at h3
      exact ⟨(hsame t ht).2 k (wD.1 h3),t,ht,h3⟩
     rw [hev]
     simp only
     rw [if_pos ?_]
     · refine ⟨_,rfl,?_⟩
       rw [Xs (s2:=s) fun t ht=>by simp only [put];exact zL _ _ (hd' t ht),hc]
       simp only [ym,zg,put]
       funext t
       by_cases e1:t=d
       · subst e1
         rw [upd_same,zL _ _ hde,upd_same]
         exact M5 hn hlb fun k hk=>(hvk k hk).1
       · rw [zL _ _ e1]
         by_cases e2:t=e
         · subst e2;rw [upd_same,upd_same]
         · rw [zL _ _ e2,zL _ _ e2,zL _ _ e1]
     · simp only [zl,yE,xk]
       rw [← hp]
       refine ⟨fun t ht=>⟨?_,(hsame t ht).2⟩,fun k hk=>⟨(hvk k hk).1,Y4.2 (hvk k hk).2⟩⟩
       have:=(hchk.1 t ht).1
       rwa [zL _ _ (hea' t ht),(hsame t ht).1] at this
 · rename_i d l z len ps e l2 f args bs
   simp only [zl,ye,xk,yE,List.isEmpty_iff] at h
   obtain ⟨hps,hd,hde⟩:=h
   have hd':∀ t∈f.rds++args.flatMap O.rds++bs,t≠d:=by
    rintro t ht rfl
    have:=wD.2 ht
    rw [this] at hd;cases hd
   have hno:∀ (s1 s2:Nat→V) t,t∈ps.flatMap (fun p=>p.2.2.rds)→s1 t=s2 t:=by
    intro s1 s2 t ht
    obtain ⟨p,hp,h⟩:=List.mem_flatMap.1 ht
    rw [hps p hp] at h;cases h
   simp only [step,yI,Ks] at h1 h2 ⊢
   cases hb:xz s ps (List.replicate len z) with
   | none=>rw [hb] at h1;cases h1
   | some xs=>
     rw [hb] at h1
     simp only at h1
     split at h1
     case h_2=>cases h1
     rename_i hg
     simp only [zg] at h1
     subst h1
     rw [Xs (s2:=s) fun t ht=>zL _ _ (hd' t ht)] at h2
     cases hc:WJ D σ s f args bs [] with
     | none=>rw [hc] at h2;cases h2
     | some p=>
       rw [hc] at h2
       simp only [ym,zg,put] at h2 ⊢
       subst h2
       refine ⟨_,rfl,?_⟩
       rw [w7 (hno _ s),hb]
       have hgd:upd (fun t=>upG p.1 p.2.1 (s t)) e p.2.2 d = .gone:=by
        rw [zL _ _ hde,hg];rfl
       simp only [hgd,zg]
       have hfix:upG p.1 p.2.1 (V.frz [.at d []] (.sl (.at d []) z.shape 0 xs))=V.frz [.at d []] (.sl (.at d []) z.shape 0 xs):=by
        have hcc:([Tok.at d []]:List Tok).contains (.at d [])=true:=by simp
        simp only [V.frz,hcc,if_true]
        repeat' split
        all_goals rfl
       funext t
       by_cases e1:t=d
       · subst e1
         rw [upd_same,zL _ _ hde,upd_same,hfix]
       · rw [zL _ _ e1]
         by_cases e2:t=e
         · subst e2;rw [upd_same,upd_same]
         · rw [zL _ _ e2,zL _ _ e2,zL _ _ e1]
 · cases h
def I.apart (i j:I):Bool:=i.apart1 j || i.apart2 j || i.apart3 j || i.apart4 j
theorem zgz {D:Den} {σ:Sig} {s s1 s2:Nat→V} {i j:I} (h:i.apart j=true) (h1:step D σ s i=some s1) (h2:step D σ s1 j=some s2) :
    ∃ s1',step D σ s j=some s1'∧step D σ s1' i=some s2:=by
 unfold I.apart at h
 rw [yB,yB,yB] at h
 rcases h with ((h | h) | h) | h
 · exact zdQ h h1 h2
 · exact zdw h h1 h2
 · exact zdG h h1 h2
 · exact zdm h h1 h2
def X.isSt:X→Bool
 | .store ..=>true
 | _=>false
def X.toS:X→X
 | .app h x y=>.appS h x y
 | .call f as=>.mark f as
 | .mk n _ z0=>.mk n z0 z0
 | x=>x
def X.toO:X→X
 | .call f as=>.callO f as
 | x=>x
def X.toG (p:Nat):X→X
 | .call f as=>.callG f p as
 | x=>x
def X.toT (bs es:List Nat):X→X
 | .call f as=>.callT f as bs es
 | .v a=>.vN a bs
 | x=>x
def X.toK:X→X
 | .store h x y=>.storeK h x y
 | x=>x
def X.toLS:X→X
 | .lit z len ps=>.litS z len ps
 | x=>x
def zgV (e:Nat) (sp:List Nat) (i:Nat):List Nat:=sp.filterMap fun n=>if n / 500000=2 * (i + 1) + e then some (n % 500000) else none
def X.ann (sp:List Nat) (i:Nat) (x:X):X:=if sp.contains i then x.toS else if sp.contains (i + 1000) then x.toO else if sp.contains (i + 2000) then x.toG 0 else if sp.contains (i + 3000) then x.toG 1 else if sp.contains (i + 4000) then x.toG 2 else if sp.contains (i + 5000) then x.toK else if sp.contains (i + 6000) then x.toLS else match zgV 0 sp i with
 | []=>x
 | b :: bs=>x.toT (b :: bs) (zgV 1 sp i)
def cI (P:Program) (n:Nat) (ops:Array Oper) (lin sp:List Nat) (i:Nat):Option I:=
 match ops[i]? with
 | none=>none
 | some o=>match cX P o.op o.type with
   | none=>none
   | some x=>
     if (o.dst.all fun k=>decide (k < n)) && (!x.isSt || o.dst.isNone) then
      match o.guard with
      | none=>some ⟨o.dst,none,lin.contains i,x.ann sp i⟩
      | some (j,want)=>match (ops[j]?).bind (·.dst) with
        | some t=>some ⟨o.dst,some (t,want),lin.contains i,x.ann sp i⟩
        | none=>none
     else none
def cIs (P:Program) (n:Nat) (ops:Array Oper) (lin sp:List Nat):List Nat→Option (List I)
 | []=>some []
 | i :: is=>match cI P n ops lin sp i,cIs P n ops lin sp is with
   | some x,some xs=>some (x :: xs)
   | _,_=>none
section
variable {P:Program} {w0:Ori} {S0:Nat→Prop} {n:Nat} {s s':Nat→V} {a:Act} {w:World} {S:Nat→Prop} {τ:Tok→Blk}
theorem zio {D:Den} {σ:Sig} {d:Option Nat} {l:Bool} {h:Sh} {x y:O} (hst:yI D σ s d l (.appS h x y)=some s'):yI D σ s d l (.app h x y)=some s':=by
 simp only [yI] at hst ⊢
 cases hsp:XM s x with
 | none=>rw [hsp] at hst;cases d <;> cases hst
 | some r=>rw [zas hsp];rw [hsp] at hst;exact hst
theorem zbx {a:Act} {t:Nat} {b:Bool} (h:a.eval (.tmp t) = .bool b):a.tmps[t]?=some (.bool b):=by
 simp only [Act.eval] at h
 cases hh:a.tmps[t]? with
 | none=>simp [hh,undef] at h
 | some v=>simp [hh] at h;rw [h]
theorem Nn:zC w S τ (.tup []) undef:=by simp [zC,z8,undef]
theorem zcj {D:Den} {σ:Sig} (hF:zF P D σ) {ops:Array Oper} {lin sp:List Nat} {i:Nat} {x:I} (hc:cI P n ops lin sp i=some x) (hI:Inv w0 S0 n s a w S τ) (hst:step D σ s x=some s')
    {K:Act→World→Prop} {Q:Exit→Act→World→Prop} (hK:Nt w0 S0 n s' K):wpOp P ops Q i K a w:=by
 unfold cI at hc
 unfold wpOp
 cases ho:ops[i]? with
 | none=>simp [ho] at hc
 | some o=>
   simp only [ho] at hc ⊢
   split at hc
   · cases hc
   · rename_i y hy
     split at hc
     · rename_i hdd
       simp only [zl] at hdd
       have hd:∀ k,o.dst=some k→k < n:=by
        intro k hk;have:=hdd.1;rw [hk] at this;simpa using this
       have go:∀ l,yI D σ s o.dst l (y.ann sp i)=some s'→o.wp P a w K Q:=by
        intro l h
        have h2:yI D σ s o.dst l y=some s'∨(∃ f as,y = .call f as∧(yI D σ s o.dst l (.mark f as)=some s'∨yI D σ s o.dst l (.callO f as)=some s'∨(∃ p,yI D σ s o.dst l (.callG f p as)=some s')∨∃ bs es,yI D σ s o.dst l (.callT f as bs es)=some s'))∨(∃ h x z,y = .store h x z∧yI D σ s o.dst l (.storeK h x z)=some s')∨(∃ z len ps,y = .lit z len ps∧yI D σ s o.dst l (.litS z len ps)=some s')∨∃ n0 z z0,y = .mk n0 z z0∧yI D σ s o.dst l (.mk n0 z0 z0)=some s':=by
         unfold X.ann at h
         split at h
         · cases y with
           | app h x y=>exact .inl (zio h)
           | call f as=>exact .inr (.inl ⟨f,as,rfl,.inl h⟩)
           | mk n0 z z0=>exact .inr (.inr (.inr (.inr ⟨n0,z,z0,rfl,h⟩)))
           | _=>exact .inl h
         · split at h
           · cases y with
             | call f as=>exact .inr (.inl ⟨f,as,rfl,.inr (.inl h)⟩)
             | _=>exact .inl h
           · split at h
             · cases y with
               | call f as=>exact .inr (.inl ⟨f,as,rfl,.inr (.inr (.inl ⟨0,h⟩))⟩)
               | _=>exact .inl h
             · split at h
               · cases y with
                 | call f as=>exact .inr (.inl ⟨f,as,rfl,.inr (.inr (.inl ⟨1,h⟩))⟩)
                 | _=>exact .inl h
               · split at h
                 · cases y with
                   | call f as=>exact .inr (.inl ⟨f,as,rfl,.inr (.inr (.inl ⟨2,h⟩))⟩)
                   | _=>exact .inl h
                 · split at h
                   · cases y with
                     | store g x z=>exact .inr (.inr (.inl ⟨g,x,z,rfl,h⟩))
                     | _=>exact .inl h
                   · split at h
                     · cases y with
                       | lit z len ps=>exact .inr (.inr (.inr (.inl ⟨z,len,ps,rfl,h⟩)))
                       | _=>exact .inl h
                     split at h
                     · exact .inl h
                     · rename_i b bs _
                       cases y with
                       | call f as=>exact .inr (.inl ⟨f,as,rfl,.inr (.inr (.inr ⟨b :: bs,_,h⟩))⟩)
                       | v a=>exact .inl (ztC h)
                       | _=>exact .inl h
        rcases h2 with h2 | ⟨f,as,rfl,h2⟩ | ⟨g,x,z,rfl,h2⟩ | ⟨z,len,ps,rfl,h2⟩ | ⟨n0,z,z0,rfl,h2⟩
        case inr.inr.inr.inl=>exact zh4 hF hy hI hd h2 hK
        case inr.inr.inr.inr=>exact ziu hy (.inr rfl) hI hd h2 hK
        case inr.inr.inl=>exact absurd h2 (by simp [yI])
        case inr.inl=>
         obtain ⟨fo,args,argTypes,e1,e2,e3⟩:=zj8 hy
         rcases h2 with h2 | h2 | ⟨p,h2⟩ | ⟨bs,es,h2⟩
         · exact absurd h2 (by simp [yI])
         · exact zbL hF e1 e2 e3 hI hd (ob:=true) h2 hK
         · exact zh6 hF e1 e2 e3 hI hd h2 hK
         · exact zj9 hF e1 e2 e3 hI hd h2 hK
        refine zbU hF hy hI hd h2 ?_ hK
        intro g u z e
        subst e
        simpa [X.isSt] using hdd.2
       split at hc
       · rename_i hg
         simp only [zg] at hc;subst hc
         have hw:Region.wanted o (yielded ops a.tmps)=true:=by simp [Region.wanted,hg]
         simp only [hw,if_true]
         exact .inl (go _ hst)
       · rename_i j want hg
         split at hc
         · rename_i t ht
           simp only [zg] at hc;subst hc
           simp only [step] at hst
           split at hst
           · rename_i b hb
             have h1:=hI.told t
             rw [hb] at h1
             simp only [zC] at h1
             have h2:=zbx h1
             have hy:yielded ops a.tmps j=some b:=by simp [yielded,ht,h2]
             have hw:Region.wanted o (yielded ops a.tmps)=(b == want):=by
              simp [Region.wanted,hg,hy]
             rw [hw]
             split at hst
             · rename_i e;subst e;simp;exact .inl (go _ hst)
             · rename_i e
               have:(b == want)=false:=by simp [e]
               simp only [this]
               simp only [zg] at hst;subst hst
               exact hK _ _ S τ (hI.putVal Nn (Xi rfl) rfl o.dst hd)
           · rename_i hb
             have h1:=hI.told t
             rw [hb] at h1
             have hy:yielded ops a.tmps j=none:=by
              unfold yielded
              simp only [ht,zb]
              cases h2:a.tmps[t]? with
              | none=>rfl
              | some v=>
                have h3:a.eval (.tmp t)=v:=by simp [Act.eval,h2]
                rw [h3] at h1
                cases v <;> first | rfl | (simp [zC] at h1)
             have hw:Region.wanted o (yielded ops a.tmps)=false:=by
              simp [Region.wanted,hg,hy]
             simp only [hw]
             simp only [zg] at hst;subst hst
             exact hK _ _ S τ (hI.putVal Nn (Xi rfl) rfl o.dst hd)
           · cases hst
         · cases hc
     · cases hc
theorem NE {D:Den} {σ:Sig} (hF:zF P D σ) {ops:Array Oper} {lin sp:List Nat} {Q:Exit→Act→World→Prop}:∀ (is:List Nat) (xs:List I) (s:Nat→V) (a:Act) (w:World) (S:Nat→Prop) (τ:Tok→Blk),
    cIs P n ops lin sp is=some xs→Inv w0 S0 n s a w S τ→XH D σ xs s=some s'→Nt w0 S0 n s' (Q .normal)→wpOps P ops Q is a w
 | [],xs,s,a,w,S,τ,hc,hI,hst,hK=>by
   simp only [cIs,zg] at hc;subst hc
   simp only [XH,zg] at hst;subst hst
   exact hK _ _ _ _ hI
 | i :: is,xs,s,a,w,S,τ,hc,hI,hst,hK=>by
   simp only [cIs] at hc
   split at hc
   · rename_i x xs' hx hxs
     simp only [zg] at hc;subst hc
     simp only [XH] at hst
     split at hst
     · rename_i s1 hs1
       rw [wpOps_cons]
       exact zcj hF hx hI hs1 fun a' w' S' τ' hI'=>NE hF is xs' s1 a' w' S' τ' hxs hI' hst hK
     · cases hst
   · cases hc
end
theorem LE {D:Den} {σ:Sig} {i:I}:∀ (pre post:List I) (s s':Nat→V),(∀ j∈pre,j.apart i=true)→XH D σ (pre++i :: post) s=some s' →
    ∃ s1,step D σ s i=some s1∧XH D σ (pre++post) s1=some s'
 | [],post,s,s',_,h=>by
   simp only [Yl,XH] at h
   split at h
   · rename_i s1 h1;exact ⟨s1,h1,h⟩
   · cases h
 | j :: pre,post,s,s',ha,h=>by
   simp only [Xh,XH] at h
   split at h
   · rename_i sj hj
     obtain ⟨t,h1,h2⟩:=LE pre post sj s' (fun k hk=>ha k (by simp [hk])) h
     obtain ⟨u,h3,h4⟩:=zgz (ha j (by simp)) hj h1
     exact ⟨u,h3,by simp only [Xh,XH,h4];exact h2⟩
   · cases h
def ziW:List Oper→List (List Nat)→List (List Nat)
 | [],acc=>acc
 | o :: os,acc=>ziW os (acc++[((o.after.toList.filter (Region.binds .any)).flatMap fun e=>e.on :: acc.getD e.on []).eraseDups])
def zdf (ops:Array Oper) (xs:List I):Bool:=
 let an:=ziW ops.toList []
 (List.range ops.size).all fun i=>
   (match ops[i]? with | some o=>o.after.toList.all fun e=>!Region.binds .any e || decide (e.on < i) | none=>true) &&
   (List.range i).all fun j=>(an.getD i []).contains j || (match xs[j]?,xs[i]? with | some y,some x=>y.apart x | _,_=>false)
def zhc (ops:Array Oper) (listed:Array Bool):Prop:=
 ∀ (i:Nat) (o:Oper) (e:Edge),ops[i]?=some o→e∈o.after.toList→Region.binds .any e=true→listed.getD i false=true→listed.getD e.on false=true
theorem Qk {ops:Array Oper} {listed:Array Bool} (hC:zhc ops listed):∀ (os:List Oper) (acc:List (List Nat)),
    (∀ k,os[k]?=ops[acc.length + k]?)→(∀ i j,(∀ (o:Oper) (e:Edge),ops[i]?=some o→e∈o.after.toList→Region.binds .any e=true→listed.getD e.on false=true)→j∈acc.getD i []→listed.getD j false=true) →
    ∀ i j,(∀ (o:Oper) (e:Edge),ops[i]?=some o→e∈o.after.toList→Region.binds .any e=true→listed.getD e.on false=true)→j∈(ziW os acc).getD i []→listed.getD j false=true
 | [],acc,_,h=>h
 | o :: os,acc,hk,h=>by
   simp only [ziW]
   refine Qk hC os _ ?_ ?_
   · intro k
     have:=hk (k + 1)
     simp only [List.getElem?_cons_succ] at this
     rw [this,uU]
     congr 1
     simp;omega
   · intro i j hi hj
     by_cases hlt:i < acc.length
     · refine h i j hi ?_
       simpa [zM,List.getElem?_append_left hlt] using hj
     · by_cases he:i=acc.length
       · have ho:=hk 0
         simp only [List.getElem?_cons_zero,Nat.add_zero] at ho
         subst he
         simp only [zM,List.getElem?_append_right (xi _),Nat.sub_self,List.getElem?_cons_zero,yd,List.mem_eraseDups,List.mem_flatMap,List.mem_filter,zW] at hj
         obtain ⟨e,⟨he1,he2⟩,rfl | hj⟩:=hj
         · exact hi o e ho.symm he1 he2
         · refine h e.on j ?_ (by simpa [zM] using hj)
           intro o' e' ho' he' hb'
           exact hC e.on o' e' ho' he' hb' (hi o e ho.symm he1 he2)
       · exfalso
         rw [zM,Zr (by simp;omega)] at hj
         simp at hj
section
variable {P:Program} {w0:Ori} {S0:Nat→Prop} {n:Nat} {s s':Nat→V} {a:Act} {w:World} {S:Nat→Prop} {τ:Tok→Blk}
theorem zeI {ops:Array Oper} {lin sp:List Nat}:∀ (is:List Nat) (xs:List I) (k i:Nat),cIs P n ops lin sp is=some xs→is[k]?=some i→∃ x,xs[k]?=some x∧cI P n ops lin sp i=some x
 | [],_,k,i,_,h=>by simp at h
 | j :: is,xs,k,i,hc,h=>by
   simp only [cIs] at hc
   split at hc
   · rename_i x xs' hx hxs
     simp only [zg] at hc;subst hc
     cases k with
     | zero=>simp at h;subst h;exact ⟨x,by simp,hx⟩
     | succ k=>obtain ⟨y,h1,h2⟩:=zeI is xs' k i hxs (by simpa using h);exact ⟨y,by simpa using h1,h2⟩
   · cases hc
def Wm (m:Nat) (listed:Array Bool):List Nat:=(List.range m).filter fun i=>!listed.getD i true
theorem zii {m i:Nat} {listed:Array Bool} (hs:listed.size=m) (hi:i < m):Wm m (listed.setIfInBounds i true)=(Wm m listed).filter fun j=>decide (j≠i):=by
 unfold Wm
 rw [List.filter_filter]
 refine List.filter_congr ?_
 intro j hj
 have hj:j < m:=by simpa using hj
 by_cases e:j=i
 · subst e
   simp [Array.getD_eq_getD_getElem?,Array.getElem?_setIfInBounds_self,hs,hi]
 · simp [Array.getD_eq_getD_getElem?,Array.getElem?_setIfInBounds_ne (Ne.symm e),e]
theorem ziY {i j:Nat} {listed:Array Bool} {d:Bool} (hi:i < listed.size):(listed.setIfInBounds i true).getD j d=if j=i then true else listed.getD j d:=by
 split
 · rename_i e;subst e
   simp [Array.getD_eq_getD_getElem?,Array.getElem?_setIfInBounds_self,hi]
 · rename_i e
   simp [Array.getD_eq_getD_getElem?,Array.getElem?_setIfInBounds_ne (Ne.symm e)]
theorem zgn {D:Den} {σ:Sig} (hF:zF P D σ) {ops:Array Oper} {lin sp:List Nat} {Q:Exit→Act→World→Prop} {xs:List I} (hc:cIs P n ops lin sp (List.range ops.size)=some xs) (hok:zdf ops xs=true) :
    ∀ (fuel:Nat) (listed:Array Bool) (s:Nat→V) (a:Act) (w:World) (S:Nat→Prop) (τ:Tok→Blk),
    listed.size=ops.size→zhc ops listed→(Wm ops.size listed).length≤fuel→Inv w0 S0 n s a w S τ→XH D σ ((Wm ops.size listed).map fun i=>xs.getD i default) s=some s'→Nt w0 S0 n s' (Q .normal) →
    wpAny P .any ops Q fuel listed a w:=by
 have hchk:∀ i o,ops[i]?=some o→(∀ e∈o.after.toList,Region.binds .any e=true→e.on < i)∧∀ j,j < i→((ziW ops.toList []).getD i []).contains j=true∨(xs.getD j default).apart (xs.getD i default)=true:=by
  intro i o ho
  have hi:i < ops.size:=by
   rcases Ys i ops.size with h | h
   · exact h
   · rw [Array.getElem?_eq_none h] at ho;cases ho
  simp only [zdf,yE] at hok
  have h:=hok i (by simpa using hi)
  simp only [ho,zl,yE] at h
  refine ⟨?_,?_⟩
  · intro e he hb
    have:=h.1 e he
    simpa [hb] using this
  · intro j hj
    have:=h.2 j (by simpa using hj)
    simp only [yB] at this
    rcases this with h1 | h1
    · exact .inl h1
    · right
      split at h1
      · rename_i y x hy hx
        simp only [zM,hy,hx,yd];exact h1
      · cases h1
 have hge:∀ i,i < ops.size→∃ o,ops[i]?=some o:=fun i hi=>⟨ops[i],by simp [hi]⟩
 have hready:∀ (listed:Array Bool) i,i∈Region.ready .any ops listed↔i∈Wm ops.size listed∧∀ (o:Oper) (e:Edge),ops[i]?=some o→e∈o.after.toList→Region.binds .any e=true→listed.getD e.on false=true:=by
  intro listed i
  simp only [Region.ready,Wm,List.mem_filter,zl,List.mem_range]
  constructor
  · rintro ⟨h1,h2,h3⟩
    refine ⟨⟨h1,h2⟩,?_⟩
    intro o e ho he hb
    simp only [ho,ym,yd] at h3
    rw [← Array.all_toList,yE] at h3
    have:=h3 e he
    simpa [hb] using this
  · rintro ⟨⟨h1,h2⟩,h3⟩
    refine ⟨h1,h2,?_⟩
    obtain ⟨o,ho⟩:=hge i h1
    simp only [ho,ym,yd]
    rw [← Array.all_toList,yE]
    intro e he
    cases hb:Region.binds .any e with
    | false=>rfl
    | true=>simpa using h3 o e ho he hb
 have hsome:∀ (listed:Array Bool),listed.size=ops.size→Region.ready .any ops listed=[]→Wm ops.size listed=[]:=by
  intro listed hsz hr
  cases ht:Wm ops.size listed with
  | nil=>rfl
  | cons i rest=>
    exfalso
    have hi:i∈Wm ops.size listed:=by rw [ht];simp
    have hi2:i < ops.size:=by simp [Wm] at hi;exact hi.1
    have:i∈Region.ready .any ops listed:=by
     rw [hready]
     refine ⟨hi,?_⟩
     intro o e ho he hb
     have hlt:=(hchk i o ho).1 e he hb
     cases hv:listed.getD e.on false with
     | true=>rfl
     | false=>
       exfalso
       have hm:e.on∈Wm ops.size listed:=by
        simp only [Wm,List.mem_filter,List.mem_range]
        refine ⟨by omega,?_⟩
        have:e.on < listed.size:=by omega
        simp only [Array.getD_eq_getD_getElem?,Array.getElem?_eq_getElem this,yd] at hv ⊢
        simp [hv]
       have hsorted:List.Pairwise (· < ·) (Wm ops.size listed):=List.Pairwise.filter _ List.pairwise_lt_range
       rw [ht] at hm hsorted
       rcases zW.1 hm with h | h
       · omega
       · have:=(List.pairwise_cons.1 hsorted).1 _ h;omega
    rw [hr] at this;cases this
 intro fuel
 induction fuel with
 | zero=>
   intro listed s a w S τ hsz hC hle hI hst hK
   have ht:Wm ops.size listed=[]:=List.length_eq_zero_iff.1 (by omega)
   rw [ht] at hst
   simp only [List.map_nil,XH,zg] at hst;subst hst
   refine ⟨?_,hK _ _ _ _ hI⟩
   cases hr:Region.ready .any ops listed with
   | nil=>rfl
   | cons i rest=>
     have:i∈Wm ops.size listed:=((hready listed i).1 (by rw [hr];simp)).1
     rw [ht] at this;cases this
 | succ fuel ih=>
   intro listed s a w S τ hsz hC hle hI hst hK
   refine ⟨?_,?_⟩
   · intro hr
     rw [hsome listed hsz hr] at hst
     simp only [List.map_nil,XH,zg] at hst;subst hst
     exact hK _ _ _ _ hI
   · intro i hi
     obtain ⟨hit,hidep⟩:=(hready listed i).1 hi
     have hi2:i < ops.size:=by simp [Wm] at hit;exact hit.1
     obtain ⟨o,ho⟩:=hge i hi2
     obtain ⟨pre,post,hpp⟩:=List.append_of_mem hit
     have hsorted:List.Pairwise (· < ·) (Wm ops.size listed):=List.Pairwise.filter _ List.pairwise_lt_range
     rw [hpp] at hst hsorted
     simp only [List.map_append,List.map_cons] at hst
     have hpre:∀ j∈pre,j < i:=fun j hj=>(List.pairwise_append.1 hsorted).2.2 j hj i (by simp)
     have hpost:∀ j∈post,i < j:=fun j hj=>(List.pairwise_cons.1 (List.pairwise_append.1 hsorted).2.1).1 j hj
     obtain ⟨s1,h1,h2⟩:=LE (pre.map fun i=>xs.getD i default) (post.map fun i=>xs.getD i default) s s' (by
      intro J hJ
      obtain ⟨j,hj,rfl⟩:=xY.1 hJ
      rcases (hchk i o ho).2 j (hpre j hj) with h | h
      · exfalso
        have hlj:=Qk hC ops.toList [] (by intro k;simp) (by intro i j _ hj;simp at hj) i j hidep (by simpa using h)
        have hjt:j∈Wm ops.size listed:=by rw [hpp];simp [hj]
        have hj2:j < ops.size:=by have:=hpre j hj;omega
        simp only [Wm,List.mem_filter] at hjt
        have hb:j < listed.size:=by omega
        simp only [Array.getD_eq_getD_getElem?,Array.getElem?_eq_getElem hb,yd] at hlj hjt
        simp [hlj] at hjt
      · exact h) hst
     obtain ⟨x,hx1,hx2⟩:=zeI (List.range ops.size) xs i i hc (by simp [hi2])
     have hx3:xs.getD i default=x:=by simp [zM,hx1]
     rw [hx3] at h1
     have htodo:Wm ops.size (listed.setIfInBounds i true)=pre++post:=by
      rw [zii hsz hi2,hpp,List.filter_append,List.filter_cons]
      simp only [ne_eq,not_true_eq_false,decide_false,ya,if_false]
      rw [List.filter_eq_self.2 (by intro j hj;have:=hpre j hj;simp;omega),List.filter_eq_self.2 (by intro j hj;have:=hpost j hj;simp;omega)]
     refine zcj hF hx2 hI h1 ?_
     intro a' w' S' τ' hI'
     refine ih (listed.setIfInBounds i true) s1 a' w' S' τ' (by simp [hsz]) ?_ ?_ hI' ?_ hK
     · intro k o' e ho' he hb hl
       have hisz:i < listed.size:=by omega
       rw [ziY hisz] at hl ⊢
       split
       · rfl
       · rename_i hne
         split at hl
         · rename_i hk
           subst hk
           exact hidep o' e ho' he hb
         · exact hC k o' e ho' he hb hl
     · rw [htodo]
       rw [hpp] at hle
       simp at hle ⊢;omega
     · rw [htodo,List.map_append];exact h2
end
section
variable {P:Program} {w0:Ori} {S0:Nat→Prop} {n:Nat} {s s':Nat→V} {a:Act} {w:World} {S:Nat→Prop} {τ:Tok→Blk}
def Tok.move (r x:Nat):Tok→Tok
 | .at r' p=>if r'=r then .at x p else .at r' p
 | .bx r'=>if r'=r then .bx x else .bx r'
 | k=>k
def UO (r x:Nat) (k:Tok):Option Tok:=if r=x then some k else if k.root?=some x then none else some (k.move r x)
theorem zfT (r x:Nat):LV (UO r x) τ (fun k=>if r=x then τ k else if k.root?=some x then τ (k.move x r) else τ k):=by
 by_cases hrx:r=x
 · subst hrx
   simp [LV,UO]
 · refine ⟨?_,?_,by simp [UO,hrx,Tok.root?,Tok.move]⟩
   · intro r' p k e
     simp only [UO,hrx,if_false,Tok.root?,zg] at e
     split at e
     · cases e
     · rename_i hne
       simp only [zg] at e
       by_cases h:r'=r
       · subst h
         simp only [Tok.move,if_true] at e;subst e
         simp [Tok.root?,Tok.move,hrx]
       · simp only [Tok.move,h,if_false] at e;subst e
         simp [Tok.root?,hne,hrx]
   · intro r' k e
     simp only [UO,hrx,if_false,Tok.root?,zg] at e
     split at e
     · cases e
     · rename_i hne
       simp only [zg] at e
       by_cases h:r'=r
       · subst h
         simp only [Tok.move,if_true] at e;subst e
         simp [Tok.root?,Tok.move,hrx]
       · simp only [Tok.move,h,if_false] at e;subst e
         simp [Tok.root?,hne,hrx]
theorem zfN {r x:Nat} {k:Tok}:(k.move r x).root?=some x∨(k.move r x).root?=k.root?:=by
 cases k <;> simp only [Tok.move] <;> (try split) <;> simp [Tok.root?]
theorem Inv.home (h:Inv w0 S0 n s a w S τ) {r x:Nat} (hx:Nat.ble zN x=false) (hl:∀ v,s x≠.lin v) (hg:s x≠.gone) :
    Inv w0 S0 n (XK (UO r x) s) a w S (fun k=>if r=x then τ k else if k.root?=some x then τ (k.move x r) else τ k):=by
 have key:∀ k k',UO r x k=some k'→k'.root?=some x∨k'.root?=k.root?:=by
  intro k k' e
  unfold UO at e
  split at e
  · simp at e;subst e;exact .inr rfl
  · split at e
    · cases e
    · simp at e;subst e;exact zfN
 refine h.map (zfT r x) ?_ ?_ ?_
 · intro q v t k k' hq ht hk e
   have:q≠x:=by rintro rfl;exact hl _ hq
   rcases key k k' e with h1 | h1
   · rw [h1];simp;exact fun e=>this e.symm
   · rw [h1];exact h.lin q v t k hq ht hk
 · intro q t k k' hq hk e
   have:q≠x:=by rintro rfl;exact hg hq
   rcases key k k' e with h1 | h1
   · rw [h1];simp;exact fun e=>this e.symm
   · rw [h1];exact h.gone q t k hq hk
 · intro k k' e hp
   unfold UO at e
   split at e
   · simpa using e
   · split at e
     · cases e
     · simp only [zg] at e
       have key2:∀ r',(Tok.at r' []).pinned=true→r'≠x:=by
        rintro r' h1 rfl
        simp [Tok.pinned,hx] at h1
       cases k with
       | «at» r' p=>
         simp only [Tok.move] at e
         split at e
         · subst e;exact absurd rfl (key2 x hp)
         · exact e
       | bx r'=>
         simp only [Tok.move] at e
         split at e
         · subst e;exact absurd rfl (key2 x hp)
         · exact e
       | nl=>exact e
       | sh=>exact e
def Lq (x:Nat) (l:List (List Nat×Tok)):Tok→Option Tok
 | .at r p=>match l.find? (fun y=>y.2 == .at r p) with
   | some y=>some (.at x y.1)
   | none=>if r=x then none else some (.at r p)
 | .bx r=>if r=x then none else some (.bx r)
 | k=>some k
def zjo (x:Nat) (l:List (List Nat×Tok)) (τ:Tok→Blk):Tok→Blk
 | .at r p=>if r=x then (match l.find? (fun y=>y.1 == p) with
   | some y=>τ y.2
   | none=>τ (.at r p)) else τ (.at r p)
 | k=>τ k
theorem Qi:∀ {l:List (List Nat×Tok)},(l.map (·.1)).Nodup→∀ y∈l,l.find? (fun z=>z.1 == y.1)=some y
 | [],_,y,hy=>by cases hy
 | z :: l,hn,y,hy=>by
   simp only [List.map_cons,List.nodup_cons] at hn
   simp only [List.find?_cons]
   rcases zW.1 hy with rfl | hy
   · simp
   · have:z.1≠y.1:=fun e=>hn.1 (xY.2 ⟨y,hy,e.symm⟩)
     have hz:(z.1 == y.1)=false:=by simpa using this
     rw [hz]
     exact Qi hn.2 y hy
theorem zdk {a b l:List Nat} (h1:a <+: l) (h2:b <+: l) (h:a.length=b.length):a=b:=by
 rw [List.prefix_iff_eq_take] at h1 h2
 rw [h1,h2,h]
mutual
theorem Lt:∀ (v:V) (p:List Nat) (m:Nat) (l:List (List Nat×Tok)),V.own p m v=some l→(∀ x∈l,p <+: x.1)∧(l.map (·.1)).Nodup
 | .dead,p,m,l,h=>by simp [V.own] at h
 | .gone,p,m,l,h=>by simp [V.own] at h
 | .fn ..,p,m,l,h=>by simp [V.own] at h
 | .ref ..,p,m,l,h=>by simp [V.own] at h
 | .int ..,p,m,l,h=>by simp [V.own] at h;subst h;simp
 | .bool ..,p,m,l,h=>by simp [V.own] at h;subst h;simp
 | .lin v,p,m,l,h=>Lt v p m l (by simpa [V.own] using h)
 | .agg vs,p,m,l,h=>by
   have:=UF vs p m 0 l (by simpa [V.own] using h)
   exact ⟨fun x hx=>by obtain ⟨j,_,hj⟩:=this.1 x hx;exact (List.prefix_append _ _).trans hj,this.2⟩
 | .tup vs,p,m,l,h=>by
   have:=UF vs p m 0 l (by simpa [V.own] using h)
   exact ⟨fun x hx=>by obtain ⟨j,_,hj⟩:=this.1 x hx;exact (List.prefix_append _ _).trans hj,this.2⟩
 | .sl t g lo xs,p,0,l,h=>by simp [V.own] at h;subst h;simp
 | .sl t g lo xs,p,m + 1,l,h=>by
   cases t with
   | sh=>simp [V.own] at h
   | bx r=>simp [V.own] at h
   | nl=>simp [V.own] at h;subst h;simp
   | «at» r q=>
     simp only [V.own] at h
     split at h
     · by_cases hf:g.flat=true
       · simp only [hf,if_true,zg] at h
         subst h
         simp
       · simp only [hf,ya,if_false,zU] at h
         obtain ⟨l',h',rfl⟩:=h
         have:=UF xs p m 0 l' h'
         refine ⟨?_,?_⟩
         · intro x hx
           rcases zW.1 hx with rfl | hx
           · exact List.prefix_refl _
           · obtain ⟨j,_,hj⟩:=this.1 x hx;exact (List.prefix_append _ _).trans hj
         · simp only [List.map_cons,List.nodup_cons]
           refine ⟨?_,this.2⟩
           intro hm
           obtain ⟨x,hx,e⟩:=xY.1 hm
           obtain ⟨j,_,hj⟩:=this.1 x hx
           have:=hj.length_le
           rw [e] at this
           simp at this
           omega
     · cases h
theorem UF:∀ (vs:List V) (p:List Nat) (m k:Nat) (l:List (List Nat×Tok)),V.owns p m k vs=some l→(∀ x∈l,∃ j,k≤j∧(p++[j]) <+: x.1)∧(l.map (·.1)).Nodup
 | [],p,m,k,l,h=>by simp [V.owns] at h;subst h;simp
 | v :: vs,p,m,k,l,h=>by
   simp only [V.owns] at h
   split at h
   · rename_i la lb h1 h2
     simp only [zg] at h
     subst h
     have ha:=Lt v (p++[k]) m la h1
     have hb:=UF vs p m (k + 1) lb h2
     refine ⟨?_,?_⟩
     · intro x hx
       rcases zG.1 hx with hx | hx
       · exact ⟨k,xi _,ha.1 x hx⟩
       · obtain ⟨j,hj,h3⟩:=hb.1 x hx;exact ⟨j,by omega,h3⟩
     · rw [List.map_append,List.nodup_append]
       refine ⟨ha.2,hb.2,?_⟩
       intro a ha' b hb' e
       obtain ⟨x,hx,rfl⟩:=xY.1 ha'
       obtain ⟨y,hy,rfl⟩:=xY.1 hb'
       obtain ⟨j,hj,h3⟩:=hb.1 y hy
       have h4:=ha.1 x hx
       rw [e] at h4
       have:=zdk h4 h3 (by simp)
       simp at this
       omega
   · cases h
end
theorem zhn {x:Nat} {l:List (List Nat×Tok)} (hn:(l.map (·.1)).Nodup):LV (Lq x l) τ (zjo x l τ):=by
 refine ⟨?_,?_,rfl⟩
 · intro r p k e
   simp only [Lq] at e
   split at e
   · rename_i y hy
     simp only [zg] at e;subst e
     have hm:=List.mem_of_find?_eq_some hy
     have h2:y.2 = .at r p:=by simpa using List.find?_some hy
     refine ⟨?_,_,_,rfl⟩
     simp only [zjo,if_true]
     rw [Qi hn y hm]
     simp only [h2]
   · split at e
     · cases e
     · rename_i hr
       simp only [zg] at e;subst e
       refine ⟨?_,_,_,rfl⟩
       simp only [zjo,hr,if_false]
 · intro r k e
   simp only [Lq] at e
   split at e
   · cases e
   · simp only [zg] at e;subst e
     exact ⟨rfl,_,rfl⟩
theorem Inv.can (h:Inv w0 S0 n s a w S τ) {x:Nat} {l:List (List Nat×Tok)} (hl0:(l.map (·.1)).Nodup) (hx:Nat.ble zN x=false) (hl:∀ v,s x≠.lin v) (hg:s x≠.gone) :
    Inv w0 S0 n (XK (Lq x l) s) a w S (zjo x l τ):=by
 have key:∀ k k',Lq x l k=some k'→k'.root?=some x∨k'=k:=by
  intro k k' e
  cases k with
  | «at» r p=>
    simp only [Lq] at e
    split at e
    · simp only [zg] at e;subst e;exact .inl rfl
    · split at e
      · cases e
      · simp only [zg] at e;exact .inr e.symm
  | bx r=>
    simp only [Lq] at e
    split at e
    · cases e
    · simp only [zg] at e;exact .inr e.symm
  | nl=>simp only [Lq,zg] at e;exact .inr e.symm
  | sh=>simp only [Lq,zg] at e;exact .inr e.symm
 refine h.map (zhn hl0) ?_ ?_ ?_
 · intro q v t k k' hq ht hk e
   have:q≠x:=by rintro rfl;exact hl _ hq
   rcases key k k' e with h1 | rfl
   · rw [h1];simp;exact fun e=>this e.symm
   · exact h.lin q v t _ hq ht hk
 · intro q t k k' hq hk e
   have:q≠x:=by rintro rfl;exact hg hq
   rcases key k k' e with h1 | rfl
   · rw [h1];simp;exact fun e=>this e.symm
   · exact h.gone q t _ hq hk
 · intro k k' e hp
   rcases key k k' e with h1 | rfl
   · obtain ⟨r,e1,e2⟩:=WI hp
     rw [h1] at e1
     simp only [zg] at e1
     subst e1
     rw [Nat.ble_eq_true_of_le e2] at hx;cases hx
   · rfl
end
inductive E where
 | home (r x:Nat)
 | frz (x:Nat)
 | clr (pk:List Nat)
 | drp (x:Nat)
 | can (x:Nat)
 | ren (x q:Nat) (p:List Nat)
 deriving Repr,Inhabited
def JW (s:Nat→V):E→Option (Nat→V)
 | .home r x=>if Nat.ble zN x then none else match s x with
   | .lin _ | .gone=>none
   | _=>some (XK (UO r x) s)
 | .frz x=>some fun t=>V.frz (s x).toks (s t)
 | .clr pk=>some (clear pk s)
 | .drp x=>some (upd s x .dead)
 | .can x=>if Nat.ble zN x then none else match s x with
   | .lin _ | .gone=>none
   | _=>(V.own [] 9 (s x)).map fun l=>XK (Lq x l) s
 | .ren x q p=>if Nat.ble zN x then none else match s x with
   | .lin _ | .gone=>none
   | _=>some (XK (Lq x [([],.at q p)]) s)
def UQ:List E→(Nat→V)→Option (Nat→V)
 | [],s=>some s
 | e :: es,s=>match JW s e with
   | some s'=>UQ es s'
   | none=>none
theorem zig {w0:Ori} {S0:Nat→Prop} {n:Nat} {s s':Nat→V} {a:Act} {w:World} {S:Nat→Prop} {τ:Tok→Blk} {e:E} (h:Inv w0 S0 n s a w S τ) (he:JW s e=some s'):∃ S' τ',Inv w0 S0 n s' a w S' τ':=by
 cases e with
 | home r x=>
   simp only [JW] at he
   split at he
   · cases he
   · rename_i hx
     split at he
     · cases he
     · cases he
     · rename_i h1 h2
       simp only [zg] at he;subst he
       exact ⟨_,_,h.home (by cases hb:Nat.ble zN x with | true=>exact absurd hb hx | false=>rfl) h1 h2⟩
 | frz x=>
   simp only [JW,zg] at he;subst he
   exact ⟨_,_,h.frz fun k hk=>⟨x,hk⟩⟩
 | clr pk=>
   simp only [JW,zg] at he;subst he
   exact ⟨_,_,h.clear pk⟩
 | drp x=>
   simp only [JW,zg] at he;subst he
   exact ⟨_,_,h.drop x⟩
 | can x=>
   simp only [JW] at he
   split at he
   · cases he
   · rename_i hx
     split at he
     · cases he
     · cases he
     · rename_i h1 h2
       simp only [zU] at he
       obtain ⟨l,hl,rfl⟩:=he
       exact ⟨_,_,h.can (Lt _ _ _ _ hl).2 (by cases hb:Nat.ble zN x with | true=>exact absurd hb hx | false=>rfl) h1 h2⟩
 | ren x q p=>
   simp only [JW] at he
   split at he
   · cases he
   · rename_i hx
     split at he
     · cases he
     · cases he
     · rename_i h1 h2
       simp only [zg] at he;subst he
       exact ⟨_,_,h.can (by simp) (by cases hb:Nat.ble zN x with | true=>exact absurd hb hx | false=>rfl) h1 h2⟩
theorem Ly {w0:Ori} {S0:Nat→Prop} {n:Nat} {a:Act} {w:World}:∀ (es:List E) {s s':Nat→V} {S:Nat→Prop} {τ:Tok→Blk},Inv w0 S0 n s a w S τ→UQ es s=some s'→∃ S' τ',Inv w0 S0 n s' a w S' τ'
 | [],s,s',S,τ,h,he=>by simp only [UQ,zg] at he;subst he;exact ⟨_,_,h⟩
 | e :: es,s,s',S,τ,h,he=>by
   simp only [UQ] at he
   split at he
   · rename_i s1 h1
     obtain ⟨S1,τ1,hI⟩:=zig h h1
     exact Ly es hI he
   · cases he
structure An where
 id:Nat
 pre:List E:=[]
 lin:List Nat:=[]
 sp:List Nat:=[]
 ep:List E:=[]
 deriving Repr
inductive AC where
 | skip
 | reg (pre:List E) (is:List I) (ep:List E)
 | seq (a b:AC)
 | cond (c:O) (a b:AC)
 | block (id:Nat) (a:AC)
 | loop (a:AC)
 | exit (id:Nat)
 | ret
 deriving Repr,Inhabited
def cC (P:Program) (n:Nat) (an:List An):Code→Option AC
 | .skip=>some .skip
 | .region id ops draw=>
   let x:=(an.find? fun x=>x.id == id).getD { id:=id }
   match cIs P n ops x.lin x.sp (List.range ops.size) with
   | some is=>if !draw || zdf ops is then some (.reg x.pre is x.ep) else some (.reg [] [⟨none,none,false,.v (.un .not (.k .dead))⟩] [])
   | none=>some (.reg [] [⟨none,none,false,.v (.un .not (.k .dead))⟩] [])
 | .seq a b=>match cC P n an a,cC P n an b with
   | some a,some b=>some (.seq a b)
   | _,_=>none
 | .cond c a b=>match cO .s c,cC P n an a,cC P n an b with
   | some c,some a,some b=>some (.cond c a b)
   | _,_,_=>none
 | .block id a=>(cC P n an a).map (.block id)
 | .loop a=>(cC P n an a).map .loop
 | .exit id=>some (.exit id)
 | .ret=>some .ret
 | _=>some (.cond (.k .dead) .skip .skip)
inductive Ex where
 | nrm
 | exit (id:Nat)
 | ret
 deriving DecidableEq,Repr
def Ex.up:Ex→Exit
 | .nrm=>.normal
 | .exit id=>.exit id
 | .ret=>.ret
abbrev ZN:=Ex→(Nat→V)→Prop
def ZN.thn (K:(Nat→V)→Prop) (Q:ZN):ZN:=fun e s=>match e with
 | .nrm=>K s
 | e=>Q e s
def ZN.blk (id:Nat) (Q:ZN):ZN:=fun e s=>match e with
 | .exit i=>if i=id then Q .nrm s else Q (.exit i) s
 | e=>Q e s
def rounds (f:ZN→(Nat→V)→Prop) (Q:ZN):Nat→(Nat→V)→Prop
 | 0,_=>False
 | k + 1,s=>f (ZN.thn (rounds f Q k) Q) s
def clr (pk:List Nat) (s:Nat→V):Nat→V:=match pk with
 | []=>s
 | pk=>clear pk s
def AC.wp (D:Den) (σ:Sig):AC→ZN→(Nat→V)→Prop
 | .skip,Q,s=>Q .nrm s
 | .reg pre is ep,Q,s=>match UQ pre s with
   | some s0=>(match XH D σ is s0 with
     | some s1=>(match UQ ep s1 with
       | some s2=>Q .nrm s2
       | none=>False)
     | none=>False)
   | none=>False
 | .seq a b,Q,s=>a.wp D σ (ZN.thn (b.wp D σ Q) Q) s
 | .cond c a b,Q,s=>match c.ev s with
   | .bool t=>if t then a.wp D σ Q s else b.wp D σ Q s
   | _=>False
 | .block id a,Q,s=>a.wp D σ (ZN.blk id Q) s
 | .loop a,Q,s=>∃ k,rounds (a.wp D σ) Q k s
 | .exit id,Q,s=>Q (.exit id) s
 | .ret,Q,s=>Q .ret s
section
variable {P:Program} {w0:Ori} {S0:Nat→Prop} {n:Nat} {s s':Nat→V} {a:Act} {w:World} {S:Nat→Prop} {τ:Tok→Blk}
theorem Inv.clr (h:Inv w0 S0 n s a w S τ) (pk:List Nat):Inv w0 S0 n (clr pk s) a w S τ:=by
 cases pk with
 | nil=>exact h
 | cons p pk=>exact h.clear _
def zt8 (w0:Ori) (S0:Nat→Prop) (n:Nat) (Q:ZN) (Q':Exit→Act→World→Prop):Prop:=∀ e s a w S τ,Q e s→Inv w0 S0 n s a w S τ→Q' e.up a w
theorem zcC {D:Den} {σ:Sig} {Q:ZN} (h:AC.wp D σ (.reg [] [⟨none,none,false,.v (.un .not (.k .dead))⟩] []) Q s):False:=h
theorem MB {D:Den} {σ:Sig} (hF:zF P D σ) (hm:P.follows .mixedOrders=true) {an:List An}:∀ (c:Code) (A:AC) (Q:ZN) (Q':Exit→Act→World→Prop) (s:Nat→V) (a:Act) (w:World) (S:Nat→Prop) (τ:Tok→Blk),
    cC P n an c=some A→Inv w0 S0 n s a w S τ→A.wp D σ Q s→zt8 w0 S0 n Q Q'→c.wp P Q' a w:=by
 intro c
 induction c with
 | skip=>
   intro A Q Q' s a w S τ hc hI h hQ
   simp only [cC,zg] at hc;subst hc
   exact wp_skip (hQ _ _ _ _ _ _ h hI)
 | region id ops draw=>
   intro A Q Q' s a w S τ hc hI h hQ
   simp only [cC] at hc
   split at hc
   · rename_i is his
     split at hc
     · rename_i hd
       simp only [zg] at hc;subst hc
       simp only [AC.wp] at h
       split at h
       case h_2=>exact h.elim
       rename_i s0 hs0
       obtain ⟨S0',τ0,hI⟩:=Ly _ hI hs0
       split at h
       · rename_i s1 hs1
         split at h
         · rename_i s2 hs2
           have hgo:Nt w0 S0 n s1 (Q' .normal):=by
            intro a' w' S' τ' hI'
            obtain ⟨S2,τ2,hI2⟩:=Ly _ hI' hs2
            exact hQ .nrm _ _ _ _ _ h hI2
           cases draw with
           | false=>
             exact wp_region (NE hF _ _ _ _ _ _ _ his hI hs1 hgo)
           | true=>
             simp only [y8,ZG] at hd
             refine wp_region_any hm ?_
             have hI3:Inv w0 S0 n s0 a { w with drawn:=w.drawn + 1 } S0' τ0:=
              hI.same_heap rfl (U2 hI.below _)
             have hxs:∀ (xs:List I),cIs P n ops ((an.find? fun x=>x.id == id).getD { id:=id }).lin ((an.find? fun x=>x.id == id).getD { id:=id }).sp (List.range ops.size)=some xs→(List.range ops.size).map (fun i=>xs.getD i default)=xs:=by
              intro xs hx
              have hlen:∀ (is:List Nat) (xs:List I) lin sp,cIs P n ops lin sp is=some xs→xs.length=is.length:=by
               intro is
               induction is with
               | nil=>intro xs lin sp h;simp [cIs] at h;subst h;rfl
               | cons i is ih=>
                 intro xs lin sp h
                 simp only [cIs] at h
                 split at h
                 · rename_i x xs' _ h2
                   simp only [zg] at h;subst h
                   simp [ih _ _ _ h2]
                 · cases h
              have:=hlen _ _ _ _ hx
              simp only [List.length_range] at this
              apply List.ext_getElem
              · simp [this]
              · intro k h1 h2
                simp [zM,h2]
             refine zgn hF his hd ops.size _ _ _ _ S0' τ0 (by simp) ?_ ?_ hI3 ?_ hgo
             · intro i o e ho he hb hl
               simp only [Array.getD_eq_getD_getElem?] at hl
               rw [Array.getElem?_replicate] at hl
               split at hl <;> simp at hl
             · exact wT (List.length_filter_le _ _) (by simp)
             · have:Wm ops.size (Array.replicate ops.size false)=List.range ops.size:=by
                unfold Wm
                refine List.filter_eq_self.2 ?_
                intro i hi
                have hi:i < ops.size:=by simpa using hi
                simp [Array.getD_eq_getD_getElem?,Array.getElem?_replicate,hi]
               rw [this,hxs _ his]
               exact hs1
         · exact h.elim
       · exact h.elim
     · simp only [zg] at hc;subst hc
       exact (zcC h).elim
   · simp only [zg] at hc;subst hc
     exact (zcC h).elim
 | seq x y ihx ihy=>
   intro A Q Q' s a w S τ hc hI h hQ
   simp only [cC] at hc
   split at hc
   · rename_i A1 A2 h1 h2
     simp only [zg] at hc;subst hc
     refine wp_seq (ihx A1 _ _ s a w S τ h1 hI h ?_)
     intro e s' a' w' S' τ' hq hI'
     cases e with
     | nrm=>exact ihy A2 Q Q' s' a' w' S' τ' h2 hI' hq hQ
     | exit id=>exact hQ (.exit id) _ _ _ _ _ hq hI'
     | ret=>exact hQ .ret _ _ _ _ _ hq hI'
   · cases hc
 | cond c x y ihx ihy=>
   intro A Q Q' s a w S τ hc hI h hQ
   simp only [cC] at hc
   split at hc
   · rename_i c' A1 A2 h0 h1 h2
     simp only [zg] at hc;subst hc
     simp only [AC.wp] at h
     split at h
     · rename_i t ht
       have hr:=Le h0 hI.told
       rw [ht] at hr
       simp only [zC] at hr
       refine wp_cond hr ?_
       cases t with
       | true=>exact ihx A1 Q Q' s a w S τ h1 hI h hQ
       | false=>exact ihy A2 Q Q' s a w S τ h2 hI h hQ
     · exact h.elim
   · cases hc
 | block id x ih=>
   intro A Q Q' s a w S τ hc hI h hQ
   simp only [cC,zU] at hc
   obtain ⟨A1,h1,rfl⟩:=hc
   refine wp_block (ih A1 _ _ s a w S τ h1 hI h ?_)
   intro e s' a' w' S' τ' hq hI'
   cases e with
   | nrm=>exact hQ .nrm _ _ _ _ _ hq hI'
   | ret=>exact hQ .ret _ _ _ _ _ hq hI'
   | exit i=>
     simp only [ZN.blk,Ex.up,Exit.inBlock] at hq ⊢
     split
     · rename_i e;rw [if_pos e] at hq;exact hQ .nrm _ _ _ _ _ hq hI'
     · rename_i e;rw [if_neg e] at hq;exact hQ (.exit i) _ _ _ _ _ hq hI'
 | loop x ih=>
   intro A Q Q' s a w S τ hc hI h hQ
   simp only [cC,zU] at hc
   obtain ⟨A1,h1,rfl⟩:=hc
   obtain ⟨k,hk⟩:=h
   refine wp_loop_rounds k ?_
   have key:∀ k s a w S τ,Inv w0 S0 n s a w S τ→rounds (A1.wp D σ) Q k s→Code.rounds P x Q' k a w:=by
    intro k
    induction k with
    | zero=>intro s a w S τ _ h;exact h.elim
    | succ k ihk=>
      intro s a w S τ hI h
      rw [rounds_succ]
      refine ih A1 _ _ s a w S τ h1 hI h ?_
      intro e s' a' w' S' τ' hq hI'
      cases e with
      | nrm=>exact ihk s' a' w' S' τ' hI' hq
      | exit id=>exact hQ (.exit id) _ _ _ _ _ hq hI'
      | ret=>exact hQ .ret _ _ _ _ _ hq hI'
   exact key k s a w S τ hI hk
 | exit id=>
   intro A Q Q' s a w S τ hc hI h hQ
   simp only [cC,zg] at hc;subst hc
   exact wp_exit (hQ (.exit id) _ _ _ _ _ h hI)
 | ret=>
   intro A Q Q' s a w S τ hc hI h hQ
   simp only [cC,zg] at hc;subst hc
   exact wp_ret (hQ .ret _ _ _ _ _ h hI)
 | _=>
   intro A Q Q' s a w S τ hc hI h
   simp only [cC,zg] at hc;subst hc
   exact h.elim
end
def UV (P:Program) (s:Nat→V):ResultVar→Option V
 | .tmp t=>some (s t)
 | .cell a t=>match shT P 6 t,s a with
   | some h,.ref _ _ _ c=>if c.shape.beq h && (KH P t == some h.isAg && vc P t == some h.size) then some c else none
   | _,_=>none
def MV (P:Program) (s:Nat→V):List ResultVar→Option V
 | []=>some (.tup [])
 | [x]=>UV P s x
 | [x,y]=>match UV P s x,UV P s y with
   | some u,some v=>some (.tup [u,v])
   | _,_=>none
 | [x,y,z]=>match UV P s x,UV P s y,UV P s z with
   | some u,some v,some t=>some (.tup [u,v,t])
   | _,_,_=>none
 | _=>none
def fin (m:Nat) (al:Bool) (v:V):Option V:=
 match V.own [] m v with
 | some l=>if decide (l.map (·.2)).Nodup && (l.all fun x=>!(V.low m v).contains x.2) && (al || v.mine) then some (V.ret m v) else none
 | none=>none
def init (args:List V):Nat→V:=fun t=>args.getD t .dead
section
variable {P:Program} {w0:Ori} {S0:Nat→Prop} {n:Nat} {s s':Nat→V} {a:Act} {w:World} {S:Nat→Prop} {τ:Tok→Blk}
def zkp (P:Program) (w:World) (tmps:Array Value) (rv:ResultVar) (c:Value):Prop:=
 match rv with
 | .tmp t=>c=tmps.getD t undef
 | .cell a t=>∃ ad,tmps.getD a undef = .pointer (some ad)∧(loadVar t ad).run P w = .ok c w
theorem W4 {rv:ResultVar} {v:V} (h:UV P s rv=some v) (hI:Inv w0 S0 n s a w S τ):∃ c,zkp P w a.tmps rv c∧zC w S τ v c∧∀ k∈v.toks,∃ t,k∈(s t).toks:=by
 cases rv with
 | tmp t=>
   simp only [UV,zg] at h;subst h
   exact ⟨_,rfl,hI.told t,fun k hk=>⟨t,hk⟩⟩
 | cell x t=>
   simp only [UV] at h
   split at h
   · rename_i g tk i q c hg hs
     split at h
     · rename_i hcond
       simp only [zl,yC] at hcond
       simp only [zg] at h;subst h
       have hr:=hI.told x
       rw [hs] at hr
       have hsh:=Sh.beq_eq _ _ hcond.1
       obtain ⟨b,off,arr,ty,fz,e,hw,hp,hle,h0,hrel⟩:=Zc hr
       obtain ⟨r,h1,h2⟩:=LC (P:=P) (t:=t) hw hle hrel (by rw [hsh];exact hcond.2.1) (by rw [hsh];exact hcond.2.2)
       refine ⟨r,⟨_,e,h1⟩,h2,?_⟩
       intro k hk
       refine ⟨x,?_⟩
       rw [hs]
       cases tk with
       | sh=>rw [h0 rfl] at hk;cases hk
       | nl=>simpa [V.toks] using hk
       | _=>simp [V.toks,hk]
     · cases h
   · cases h
theorem U3:∀ (fn:Func) (rs:List ResultVar) (v:V),fn.results.toList=rs→MV P s rs=some v→Inv w0 S0 n s a w S τ →
    ∃ c,(results fn a.tmps).run P w = .ok c w∧zC w S τ v c∧∀ k∈v.toks,∃ t,k∈(s t).toks:=by
 intro fn rs v hrs h hI
 have hres:fn.results=rs.toArray:=by rw [← hrs]
 unfold MV at h
 split at h
 · simp only [zg] at h;subst h
   exact ⟨.tuple #[],by simp [results,hres],⟨#[],rfl,by simp [z8]⟩,by simp [V.toks,V.tokss]⟩
 · rename_i x
   obtain ⟨c,h1,h2,h3⟩:=W4 h hI
   refine ⟨c,?_,h2,h3⟩
   cases x with
   | tmp t=>simp only [zkp] at h1;subst h1;simp [results,hres]
   | cell y t=>obtain ⟨ad,e,h1⟩:=h1;simp [results,hres] at e ⊢;simp [e,h1,asAddr]
 · rename_i x y
   split at h
   · rename_i u u' hu hu'
     simp only [zg] at h;subst h
     obtain ⟨c,h1,h2,h3⟩:=W4 hu hI
     obtain ⟨c',h1',h2',h3'⟩:=W4 hu' hI
     refine ⟨.tuple #[c,c'],?_,⟨_,rfl,by simp only [z8];exact ⟨c,[c'],rfl,h2,c',[],rfl,h2',rfl⟩⟩,?_⟩
     · cases x <;> cases y <;> simp only [zkp] at h1 h1' <;> (try obtain ⟨ad,e,h1⟩:=h1) <;> (try obtain ⟨ad',e',h1'⟩:=h1') <;> (try subst h1) <;> (try subst h1') <;> simp_all [results,asAddr]
     · intro k hk
       simp only [V.toks,V.tokss,xj,zG] at hk
       exact hk.elim (h3 k) (h3' k)
   · cases h
 · rename_i x y z
   split at h
   · rename_i u u' u'' hu hu' hu''
     simp only [zg] at h;subst h
     obtain ⟨c,h1,h2,h3⟩:=W4 hu hI
     obtain ⟨c',h1',h2',h3'⟩:=W4 hu' hI
     obtain ⟨c'',h1'',h2'',h3''⟩:=W4 hu'' hI
     refine ⟨.tuple #[c,c',c''],?_,⟨_,rfl,by simp only [z8];exact ⟨c,[c',c''],rfl,h2,c',[c''],rfl,h2',c'',[],rfl,h2'',rfl⟩⟩,?_⟩
     · cases x <;> cases y <;> cases z <;> simp only [zkp] at h1 h1' h1'' <;> (try obtain ⟨ad,e,h1⟩:=h1) <;> (try obtain ⟨ad',e',h1'⟩:=h1') <;> (try obtain ⟨ad'',e'',h1''⟩:=h1'') <;> (try subst h1) <;> (try subst h1') <;> (try subst h1'') <;> simp_all [results,asAddr]
     · intro k hk
       simp only [V.toks,V.tokss,xj,zG] at hk
       exact hk.elim (h3 k) fun hk=>hk.elim (h3' k) (h3'' k)
   · cases h
 · cases h
theorem J5:∀ (us:List V) (cs:List Value) (t:Nat),z8 w S τ us cs→zC w S τ (us.getD t .dead) (cs.getD t undef)
 | [],cs,t,h=>by simp [zC]
 | u :: us,cs,t,h=>by
   simp only [z8] at h
   obtain ⟨c,cs',rfl,h1,h2⟩:=h
   cases t with
   | zero=>simpa using h1
   | succ t=>simpa using J5 us cs' t h2
theorem WW:∀ (us:List V) (cs:List Value),z8 w S τ us cs→cs.length=us.length
 | [],cs,h=>by simp only [z8] at h;subst h;rfl
 | u :: us,cs,h=>by
   simp only [z8] at h
   obtain ⟨c,cs',rfl,_,h2⟩:=h
   simp [WW us cs' h2]
theorem Y3:∀ (us:List V) (t:Nat),V.tokss us=[]→(us.getD t .dead).toks=[]
 | [],t,_=>by simp [V.toks]
 | u :: us,t,h=>by
   simp only [V.tokss,List.append_eq_nil_iff] at h
   cases t with
   | zero=>simpa using h.1
   | succ t=>simpa using Y3 us t h.2
mutual
theorem MT:∀ (v:V) (p:List Nat) (m:Nat) (l:List (List Nat×Tok)),V.own p m v=some l→∀ k∈V.low m v,k∈v.toks
 | .sl t h lo xs,p,0,l,ho,k,hk=>by simpa [V.low] using hk
 | .sl t h lo xs,p,m + 1,l,ho,k,hk=>by
   cases t with
   | sh=>simp [V.own] at ho
   | bx r=>simp [V.own] at ho
   | nl=>simp [V.low] at hk
   | «at» r q=>
     simp only [V.low] at hk
     split at hk
     · cases hk
     · rename_i hf
       simp only [V.own,hf] at ho
       split at ho
       · simp only [ya,if_false,zU] at ho
         obtain ⟨l',h',_⟩:=ho
         have:=JF xs p m 0 l' h' k hk
         simp [V.toks,hf,this]
       · cases ho
 | .agg vs,p,m,l,ho,k,hk=>by simpa [V.toks] using JF vs p m 0 l (by simpa [V.own] using ho) k (by simpa [V.low] using hk)
 | .tup vs,p,m,l,ho,k,hk=>by simpa [V.toks] using JF vs p m 0 l (by simpa [V.own] using ho) k (by simpa [V.low] using hk)
 | .lin v,p,m,l,ho,k,hk=>by simpa [V.toks] using MT v p m l (by simpa [V.own] using ho) k (by simpa [V.low] using hk)
 | .dead,p,m,l,ho,k,hk | .gone,p,m,l,ho,k,hk | .int ..,p,m,l,ho,k,hk | .bool ..,p,m,l,ho,k,hk | .ref ..,p,m,l,ho,k,hk | .fn ..,p,m,l,ho,k,hk=>by simpa [V.low] using hk
theorem JF:∀ (vs:List V) (p:List Nat) (m j:Nat) (l:List (List Nat×Tok)),V.owns p m j vs=some l→∀ k∈V.lows m vs,k∈V.tokss vs
 | [],p,m,j,l,ho,k,hk=>by simp [V.lows] at hk
 | v :: vs,p,m,j,l,ho,k,hk=>by
   simp only [V.owns] at ho
   split at ho
   · rename_i la lb h1 h2
     simp only [V.lows,V.tokss,zG] at hk ⊢
     exact hk.imp (MT v _ m la h1 k) (JF vs p m (j + 1) lb h2 k)
   · cases ho
end
def ori (w:World) (τ:Tok→Blk):Ori:=⟨w,fun b=>w.heap.size≤b,τ,fun _ h=>h⟩
theorem ziq {args:List V} {vals:Array Value} {nt:Nat} (hS:∀ b,S b→b < w.heap.size) (hr:z8 w S τ args vals.toList) (h0:V.tokss args=[]) (hn:args.length≤nt) (hnt:nt≤zN) :
    Inv (ori w τ) S nt (init args) { tmps:=vals++Array.replicate (nt - vals.size) undef,defers:=[] } w S τ where
 told t:=by
  have hl:=WW _ _ hr
  simp only [Array.length_toList] at hl
  have:=J5 args vals.toList t hr
  by_cases ht:t < vals.size
  · simp only [init,Act.eval,Array.getD_eq_getD_getElem?,Array.getElem?_append_left ht]
    simpa [zM] using this
  · have:init args t = .dead:=by
     simp only [init]
     rw [zM,Zr (by omega)];rfl
    rw [this];simp [zC]
 size:=by
  have hl:=WW _ _ hr
  simp at hl ⊢;omega
 defers:=rfl
 own t k hk:=by rw [init,Y3 args t h0] at hk;cases hk
 inj t t' k k' hk:=by rw [init,Y3 args t h0] at hk;cases hk
 sbd:=hS
 sfr b hb:=.inl hb
 s0 b hb:=hb
 below:=Bel.refl _ _
 lin r v t k _ _ hk:=by rw [init,Y3 args t h0] at hk;cases hk
 gone r t k _ hk:=by rw [init,Y3 args t h0] at hk;cases hk
 small:=hnt
 pin t k hk:=by rw [init,Y3 args t h0] at hk;cases hk
theorem zfk {m:Nat} {al:Bool} {v r:V} {c:Value} (hI:Inv w0 S0 n s a w S τ) (hf:fin m al v=some r) (hr:zC w S τ v c) (hk:∀ k∈v.toks,∃ t,k∈(s t).toks) (d:Nat) :
    ∃ τ',Bel w0.N w0.w w ∧
     (∀ k∈(V.tag d [] m r).toks,k.root?=some d∧w0.N (τ' k).b∧(τ' k).b < w.heap.size) ∧
     (∀ k∈(V.tag d [] m r).toks,∀ k'∈(V.tag d [] m r).toks,(τ' k).b=(τ' k').b→k=k') ∧
     zC w (fun b=>(al=true∧S0 b∨w0.N b)∧b < w.heap.size∧∀ k∈(V.tag d [] m r).toks,(τ' k).b≠b) τ' (V.tag d [] m r) c:=by
 unfold fin at hf
 split at hf
 · rename_i l hl
   split at hf
   · rename_i hc
     simp only [zg] at hf;subst hf
     simp only [zl,ye,yE,xk,yB] at hc
     obtain ⟨⟨hnd,hlow⟩,hal⟩:=hc
     let τ':Tok→Blk:=fun k=>match k with
      | .at d' q=>if d'=d then τ (LH v q) else τ k
      | k=>τ k
     have hT:MM d (LH v) τ τ':=by intro q;simp [τ']
     have htk:=Mh d v [] m l hl
     have how:=M1 (T:=LH v) v [] m l hl (fun q=>by simp)
     have hown:∀ x∈l,w0.N (τ' (.at d x.1)).b∧(τ' (.at d x.1)).b < w.heap.size∧¬ S (τ' (.at d x.1)).b:=by
      intro x hx
      have h1:=how x hx
      rw [hT x.1,h1.1]
      obtain ⟨t,ht⟩:=hk _ h1.2
      exact hI.own t _ ht
     refine ⟨τ',hI.below,?_,?_,?_⟩
     · intro k hk'
       rw [htk] at hk'
       obtain ⟨x,hx,rfl⟩:=xY.1 hk'
       exact ⟨rfl,(hown x hx).1,(hown x hx).2.1⟩
     · intro k hk' k2 hk2 e
       rw [htk] at hk' hk2
       obtain ⟨x,hx,rfl⟩:=xY.1 hk'
       obtain ⟨y,hy,rfl⟩:=xY.1 hk2
       have h1:=how x hx
       have h2:=how y hy
       rw [hT x.1,hT y.1,h1.1,h2.1] at e
       obtain ⟨t,ht⟩:=hk _ h1.2
       obtain ⟨t',ht'⟩:=hk _ h2.2
       have e2:=hI.inj t t' _ _ ht ht' e
       have:x=y:=by
        have hpw:=List.pairwise_map.1 hnd
        have:∀ (l:List (List Nat×Tok)),List.Pairwise (fun a b=>a.2≠b.2) l→x∈l→y∈l→x=y:=by
         intro l
         induction l with
         | nil=>intro _ h;cases h
         | cons z l ih=>
           intro hp hx hy
           rw [List.pairwise_cons] at hp
           rcases zW.1 hx with h1 | h1 <;> rcases zW.1 hy with h2 | h2
           · rw [h1,h2]
           · rw [h1] at e2;exact absurd e2 (hp.1 y h2)
           · rw [h2] at e2;exact absurd e2.symm (hp.1 x h1)
           · exact ih hp.2 h1 h2
        exact this l hpw hx hy
       rw [this]
     · -- what is shared
       have hlowS:∀ k∈V.low m v,(w0.N (τ k).b)∧(τ k).b < w.heap.size∧∀ k'∈(V.tag d [] m (V.ret m v)).toks,(τ' k').b≠(τ k).b:=by
        intro k hkl
        obtain ⟨t,ht⟩:=hk _ (MT v [] m l hl k hkl)
        have h1:=hI.own t k ht
        refine ⟨h1.1,h1.2.1,?_⟩
        intro k' hk' e
        rw [htk] at hk'
        obtain ⟨x,hx,rfl⟩:=xY.1 hk'
        have h2:=how x hx
        rw [hT x.1,h2.1] at e
        obtain ⟨t',ht'⟩:=hk _ h2.2
        have e2:=hI.inj t' t _ _ ht' ht e
        have:=hlow x hx
        rw [e2] at this
        simp [hkl] at this
       rcases hal with hal | hal
       · subst hal
         refine Kf hT ?_ v [] m c l hr hl (fun q=>by simp) ?_
         · intro b hb
           refine ⟨?_,hI.sbd b hb,?_⟩
           · rcases hI.sfr b hb with h | h
             · exact .inl ⟨rfl,h⟩
             · exact .inr h
           · intro k' hk' e
             rw [htk] at hk'
             obtain ⟨x,hx,rfl⟩:=xY.1 hk'
             rw [← e] at hb
             exact (hown x hx).2.2 hb
         · intro k hkl
           have:=hlowS k hkl
           exact ⟨.inr this.1,this.2.1,this.2.2⟩
       · refine Kf hT (S:=fun _=>False) (fun b hb=>hb.elim) v [] m c l (Lu _ v c hr hal) hl (fun q=>by simp) ?_
         intro k hkl
         have:=hlowS k hkl
         exact ⟨.inr this.1,this.2.1,this.2.2⟩
   · cases hf
 · cases hf
theorem zb3 {D:Den} {σ:Sig} (hF:zF P D σ) (hm:P.follows .mixedOrders=true) {f:Nat} {fn:Func} {c:Code} (hf:P.funcs[f]?=some fn) (hb:fn.body=some c) {an:List An} {A:AC} (hc:cC P fn.ntmps an c=some A)
    {m:Nat} {al:Bool} {args:List V} {r:V} (hn:args.length≤fn.ntmps) (hnt:Nat.ble fn.ntmps zN=true)
    (h:A.wp D σ (fun e s=>(e = .nrm∨e = .ret)∧(MV P s fn.results.toList).bind (fin m al)=some r) (init args)):YK P f m al args r:=by
 intro d w S τ vals hS hr h0
 have hI:=ziq hS hr h0 hn (Nat.le_of_ble_eq_true hnt)
 refine calls_of_wp hf hb (MB hF hm c A _ _ _ _ _ _ _ hc hI h ?_)
 rintro e s a w' S' τ' ⟨he,hres⟩ hI'
 simp only [Option.bind_eq_some_iff] at hres
 obtain ⟨v,hv,hfin⟩:=hres
 obtain ⟨cv,h1,h2,h3⟩:=U3 fn _ v rfl hv hI'
 obtain ⟨τ2,h4,h5,h6,h7⟩:=zfk hI' hfin h2 h3 d
 rcases he with rfl | rfl
 · exact ⟨hI'.defers,cv,h1,cv,τ2,rfl,h4.below,h5,h6,h7⟩
 · exact ⟨hI'.defers,cv,h1,cv,τ2,rfl,h4.below,h5,h6,h7⟩
end
section
variable {D:Den} {σ:Sig}
end
structure Ent where
 g:Nat
 den:List V→Option V
 m:Nat
 al:Bool
 sel:List V→Bool
def tD:List Ent→Den
 | [],_,_=>none
 | e :: t,g,args=>bif g == e.g && e.sel args then e.den args else tD t g args
def tS:List Ent→Sig
 | [],_=>none
 | e :: t,g=>if g=e.g then some (e.m,e.al) else tS t g
structure Ent.Ok (P:Program) (e:Ent):Prop where
 con:∀ args r,e.den args=some r→xZ P (unk e.g) e.m e.al args r
 fn : ∃ fn, P.funcs[unk e.g]? = some fn ∧ fn.body.isNone = false ∧ (fn.name == "runtime.NumGoroutine") = false
theorem zcG {P:Program}:zF P (tD []) (tS []):=⟨fun _ _ _ _ _ h=>by simp [tD] at h,fun _ _ _ h=>by simp [tS] at h⟩
theorem zfC:∀ (t:List Ent) (g:Nat) (args:List V),tS t g=none→tD t g args=none
 | [],_,_,_=>rfl
 | e :: t,g,args,h=>by
   simp only [tS] at h
   split at h
   · cases h
   · rename_i hg
     have:(g == e.g)=false:=by simpa using hg
     simp only [tD,this,um,zk]
     exact zfC t g args h
theorem zB {P:Program} {e:Ent} {t:List Ent} (he:e.Ok P) (ht:zF P (tD t) (tS t)) (hs:tS t e.g=none∨tS t e.g=some (e.m,e.al)):zF P (tD (e :: t)) (tS (e :: t)):=by
 refine ⟨?_,?_⟩
 · intro g args r m al hD hσ
   simp only [tD,tS] at hD hσ
   by_cases hg:g=e.g
   · subst hg
     rw [if_pos rfl] at hσ
     simp only [zg,Prod.mk.injEq] at hσ
     obtain ⟨rfl,rfl⟩:=hσ
     simp only [Yw,yk] at hD
     cases hsel:e.sel args with
     | true=>rw [hsel] at hD;exact he.con args r hD
     | false=>
       rw [hsel,zk] at hD
       rcases hs with h | h
       · rw [zfC t _ args h] at hD;cases hD
       · exact ht.con _ args r _ _ hD h
   · have:(g == e.g)=false:=by simpa using hg
     rw [this,um,zk] at hD
     rw [if_neg hg] at hσ
     exact ht.con g args r m al hD hσ
 · intro g m al hσ
   simp only [tS] at hσ
   split at hσ
   · rename_i hg;subst hg;exact he.fn
   · exact ht.fn g m al hσ
mutual
theorem Sh.beq_refl:∀ a:Sh,a.beq a=true
 | .s | .p=>rfl
 | .ag hs=>by simp [Sh.beq,Sh.beqs_refl hs]
theorem Sh.beqs_refl:∀ a:List Sh,Sh.beqs a a=true
 | []=>rfl
 | h :: hs=>by simp [Sh.beqs,Sh.beq_refl h,Sh.beqs_refl hs]
end
class Enc (α:Type) where
 enc:α→V
 dec:V→Option α
 shp:Sh
 dec_enc:∀ x,dec (enc x)=some x
 enc_dec:∀ v x,dec v=some x→enc x=v
 shape_enc:∀ x,(enc x).shape=shp
 erase_enc:∀ x,(enc x).erase=enc x
 toks_enc:∀ x,(enc x).toks=[]
 map_enc:∀ f x,V.map f (enc x)=enc x
 mem_enc:∀ x,(enc x).mem=true
 own0:∀ p x,V.own p 0 (enc x)=some []
 low0:∀ x,V.low 0 (enc x)=[]
 ret0:∀ x,V.ret 0 (enc x)=enc x
 tag0:∀ d p x,V.tag d p 0 (enc x)=enc x
 frz_enc:∀ K x,V.frz K (enc x)=enc x
 mut_enc:∀ t i q u x,V.mut t i q u (enc x)=enc x
open Enc (enc dec)
instance:Enc Int where
 enc x:=.int .i64 x
 dec | .int .i64 x=>some x | _=>none
 shp:=.s
 dec_enc _:=rfl
 enc_dec v x h:=by
  cases v with
  | int k n=>cases k <;> simp at h;subst h;rfl
  | _=>simp at h
 shape_enc _:=rfl
 erase_enc _:=rfl
 toks_enc _:=rfl
 map_enc _ _:=rfl
 mem_enc _:=rfl
 own0 _ _:=rfl
 low0 _:=rfl
 ret0 x:=rfl
 tag0 _ _ _:=rfl
 frz_enc _ _:=rfl
 mut_enc _ _ _ _ _:=rfl
instance:Enc Bool where
 enc x:=.bool x
 dec | .bool x=>some x | _=>none
 shp:=.s
 dec_enc _:=rfl
 enc_dec v x h:=by
  cases v with
  | bool n=>simp at h;subst h;rfl
  | _=>simp at h
 shape_enc _:=rfl
 erase_enc _:=rfl
 toks_enc _:=rfl
 map_enc _ _:=rfl
 mem_enc _:=rfl
 own0 _ _:=rfl
 low0 _:=rfl
 ret0 x:=rfl
 tag0 _ _ _:=rfl
 frz_enc _ _:=rfl
 mut_enc _ _ _ _ _:=rfl
def zby {α:Type} [Enc α]:List V→Option (List α)
 | []=>some []
 | v :: vs=>match Enc.dec v,zby vs with
   | some x,some xs=>some (x :: xs)
   | _,_=>none
theorem Lk {α:Type} [Enc α]:∀ xs:List α,zby (xs.map Enc.enc)=some xs
 | []=>rfl
 | x :: xs=>by simp [zby,Enc.dec_enc,Lk xs]
theorem KY {α:Type} [Enc α]:∀ (vs:List V) (xs:List α),zby vs=some xs→xs.map Enc.enc=vs
 | [],xs,h=>by simp [zby] at h;subst h;rfl
 | v :: vs,xs,h=>by
   simp only [zby] at h
   split at h
   · rename_i x xs' h1 h2
     simp only [zg] at h;subst h
     simp [Enc.enc_dec v x h1,KY vs xs' h2]
   · cases h
theorem Yp {α:Type} [Enc α]:∀ xs:List α,V.erases (xs.map Enc.enc)=xs.map Enc.enc
 | []=>rfl
 | x :: xs=>by simp [V.erases,Enc.erase_enc,Yp xs]
theorem vf {α:Type} [Enc α]:∀ xs:List α,V.tokss (xs.map Enc.enc)=[]
 | []=>rfl
 | x :: xs=>by simp [V.tokss,Enc.toks_enc,vf xs]
theorem N4 {α:Type} [Enc α] (f:Tok→Option Tok):∀ xs:List α,V.maps f (xs.map Enc.enc)=xs.map Enc.enc
 | []=>rfl
 | x :: xs=>by simp [V.maps,Enc.map_enc,N4 f xs]
instance {α:Type} [Enc α]:Enc (List α) where
 enc xs:=.sl .sh (Enc.shp α) 0 (xs.map Enc.enc)
 dec | .sl .sh h 0 xs=>if h.beq (Enc.shp α) then zby xs else none
     | _=>none
 shp:=.p
 dec_enc xs:=by simp [Sh.beq_refl,Lk]
 enc_dec v xs h:=by
  split at h
  · split at h
    · rename_i hb
      rw [Sh.beq_eq _ _ hb,KY _ _ h]
    · cases h
  · cases h
 shape_enc _:=rfl
 erase_enc xs:=by simp [V.erase,Yp]
 toks_enc _:=rfl
 map_enc _ _:=rfl
 mem_enc _:=rfl
 own0 _ _:=rfl
 low0 _:=rfl
 ret0 x:=by simp [V.ret,Yp]
 tag0 _ _ _:=rfl
 frz_enc _ _:=rfl
 mut_enc _ _ _ _ _:=rfl
inductive NL (α:Type) where
 | nil
 | of (xs:List α)
def NL.list {α:Type}:NL α→List α
 | .nil=>[]
 | .of xs=>xs
instance {α β:Type} [Enc α] [Enc β]:Enc (α×β) where
 enc x:=.agg [Enc.enc x.1,Enc.enc x.2]
 dec | .agg [u,v]=>match Enc.dec u,Enc.dec v with
       | some x,some y=>some (x,y)
       | _,_=>none
     | _=>none
 shp:=.ag [Enc.shp α,Enc.shp β]
 dec_enc x:=by simp [Enc.dec_enc]
 enc_dec v x h:=by
  split at h
  · split at h
    · rename_i h1 h2
      simp only [zg] at h;subst h
      simp [Enc.enc_dec _ _ h1,Enc.enc_dec _ _ h2]
    · cases h
  · cases h
 shape_enc x:=by simp [V.shape,V.shapes,Enc.shape_enc]
 erase_enc x:=by simp [V.erase,V.erases,Enc.erase_enc]
 toks_enc x:=by simp [V.toks,V.tokss,Enc.toks_enc]
 map_enc f x:=by simp [V.map,V.maps,Enc.map_enc]
 mem_enc _:=rfl
 own0 p x:=by simp [V.own,V.owns,Enc.own0]
 low0 x:=by simp [V.low,V.lows,Enc.low0]
 ret0 x:=by simp [V.ret,V.rets,Enc.ret0]
 tag0 d p x:=by simp [V.tag,V.tags,Enc.tag0]
 frz_enc K x:=by simp [V.frz,V.frzs,Enc.frz_enc]
 mut_enc t i q u x:=by simp [V.mut,V.muts,Enc.mut_enc]
class Ret (α:Type) where
 ret:α→V
instance:Ret Int:=⟨Enc.enc⟩
instance:Ret Bool:=⟨Enc.enc⟩
instance {α:Type} [Enc α]:Ret (NL α):=⟨fun | .nil=>.sl .nl (Enc.shp α) 0 [] | .of xs=>.sl .sh (Enc.shp α) 0 (xs.map Enc.enc)⟩
instance {α β:Type} [Ret α] [Ret β]:Ret (α×β):=⟨fun x=>.tup [Ret.ret x.1,Ret.ret x.2]⟩
end Go.Zq
namespace Go.Zq
def xK (D:Den) (σ:Sig) (s:Nat→V) (d:Option Nat) (l:Bool) (x:X) (K:(Nat→V)→Prop):Prop:=
 match yI D σ s d l x with
 | some s'=>K s'
 | none=>False
def goK (D:Den) (σ:Sig):List I→(Nat→V)→((Nat→V)→Prop)→Prop
 | [],s,K=>K s
 | i :: is,s,K=>match i.g with
   | none=>xK D σ s i.d i.l i.x fun s'=>goK D σ is s' K
   | some (j,want)=>match s j with
     | .bool b=>if b=want then xK D σ s i.d i.l i.x (fun s'=>goK D σ is s' K) else goK D σ is (put s i.d (.tup [])) K
     | .tup []=>goK D σ is (put s i.d (.tup [])) K
     | _=>False
def epK:List E→(Nat→V)→((Nat→V)→Prop)→Prop
 | [],s,K=>K s
 | e :: es,s,K=>match JW s e with
   | some s'=>epK es s' K
   | none=>False
section
variable {D:Den} {σ:Sig}
theorem W5:∀ (is:List I) (s:Nat→V) (K:(Nat→V)→Prop),goK D σ is s K→∃ s',XH D σ is s=some s'∧K s'
 | [],s,K,h=>⟨s,rfl,h⟩
 | i :: is,s,K,h=>by
   simp only [goK] at h
   simp only [XH,Zq.step]
   split at h
   · rename_i hg
     try simp only [hg]
     simp only [xK] at h
     split at h
     · rename_i s1 h1
       try simp only [h1]
       exact W5 is s1 K h
     · exact h.elim
   · rename_i j want hg
     try simp only [hg]
     split at h
     · rename_i b hb
       try simp only [hb]
       split at h
       · rename_i hw
         try simp only [if_pos hw]
         simp only [xK] at h
         split at h
         · rename_i s1 h1
           try simp only [h1]
           exact W5 is s1 K h
         · exact h.elim
       · rename_i hw
         try simp only [if_neg hw]
         exact W5 is _ K h
     · rename_i hb
       try simp only [hb]
       exact W5 is _ K h
     · exact h.elim
theorem M9:∀ (es:List E) (s:Nat→V) (K:(Nat→V)→Prop),epK es s K→∃ s',UQ es s=some s'∧K s'
 | [],s,K,h=>⟨s,rfl,h⟩
 | e :: es,s,K,h=>by
   simp only [epK] at h
   simp only [UQ]
   split at h
   · rename_i s1 h1
     try simp only [h1]
     exact M9 es s1 K h
   · exact h.elim
def AC.ok (D:Den) (σ:Sig):AC→ZN→(Nat→V)→Prop
 | .skip,Q,s=>Q .nrm s
 | .reg pk is ep,Q,s=>epK pk s fun s0=>goK D σ is s0 fun s1=>epK ep s1 (Q .nrm)
 | .seq a b,Q,s=>a.ok D σ (ZN.thn (b.ok D σ Q) Q) s
 | .cond c a b,Q,s=>match c.ev s with
   | .bool t=>if t then a.ok D σ Q s else b.ok D σ Q s
   | _=>False
 | .block id a,Q,s=>a.ok D σ (ZN.blk id Q) s
 | .loop a,Q,s=>∃ k,rounds (a.ok D σ) Q k s
 | .exit id,Q,s=>Q (.exit id) s
 | .ret,Q,s=>Q .ret s
variable {Q:ZN} {s:Nat→V} {K:(Nat→V)→Prop}
theorem zuK {d:Option Nat} {l:Bool} {a:A}:xK D σ s d l (.v a) K=(match yi s a with | some v=>K (put s d v) | none=>False):=by
 cases h:yi s a <;> simp [xK,yI,h]
end
inductive Fr where
 | sq (b:AC)
 | bk (id:Nat)
 | lp (a:AC)
inductive Cf where
 | run (a:AC) (k:List Fr)
 | nrm (k:List Fr)
 | ext (id:Nat) (k:List Fr)
inductive Run (D:Den) (σ:Sig) (R:(Nat→V)→Prop):Cf→(Nat→V)→Prop
 | skip {k s}:Run D σ R (.nrm k) s→Run D σ R (.run .skip k) s
 | reg {pk is ep k s s0 s1 s2}:UQ pk s=some s0→XH D σ is s0=some s1→UQ ep s1=some s2→Run D σ R (.nrm k) s2→Run D σ R (.run (.reg pk is ep) k) s
 | seq {a b k s}:Run D σ R (.run a (.sq b :: k)) s→Run D σ R (.run (.seq a b) k) s
 | cond {c a b k s t}:c.ev s = .bool t→Run D σ R (.run (if t then a else b) k) s→Run D σ R (.run (.cond c a b) k) s
 | block {id a k s}:Run D σ R (.run a (.bk id :: k)) s→Run D σ R (.run (.block id a) k) s
 | loop {a k s}:Run D σ R (.run a (.lp a :: k)) s→Run D σ R (.run (.loop a) k) s
 | exit {id k s}:Run D σ R (.ext id k) s→Run D σ R (.run (.exit id) k) s
 | ret {k s}:R s→Run D σ R (.run .ret k) s
 | nil {s}:R s→Run D σ R (.nrm []) s
 | nsq {b k s}:Run D σ R (.run b k) s→Run D σ R (.nrm (.sq b :: k)) s
 | nbk {id k s}:Run D σ R (.nrm k) s→Run D σ R (.nrm (.bk id :: k)) s
 | nlp {a k s}:Run D σ R (.run a (.lp a :: k)) s→Run D σ R (.nrm (.lp a :: k)) s
 | esq {id b k s}:Run D σ R (.ext id k) s→Run D σ R (.ext id (.sq b :: k)) s
 | ebk {id k s}:Run D σ R (.nrm k) s→Run D σ R (.ext id (.bk id :: k)) s
 | ebn {i id k s}:i≠id→Run D σ R (.ext i k) s→Run D σ R (.ext i (.bk id :: k)) s
 | elp {i a k s}:Run D σ R (.ext i k) s→Run D σ R (.ext i (.lp a :: k)) s
def Js (D:Den) (σ:Sig) (R:(Nat→V)→Prop):List Fr→ZN
 | []=>fun e s=>(e = .nrm∨e = .ret)∧R s
 | .sq b :: k=>ZN.thn (b.wp D σ (Js D σ R k)) (Js D σ R k)
 | .bk id :: k=>ZN.blk id (Js D σ R k)
 | .lp a :: k=>ZN.thn (fun s=>∃ n,rounds (a.wp D σ) (Js D σ R k) n s) (Js D σ R k)
section
variable {D:Den} {σ:Sig} {R:(Nat→V)→Prop}
theorem JJ {s:Nat→V} (h:R s):∀ k,Js D σ R k .ret s
 | []=>⟨.inr rfl,h⟩
 | .sq _ :: k=>JJ h k
 | .bk _ :: k=>JJ h k
 | .lp _ :: k=>JJ h k
theorem zng:∀ (A:AC) {Q:ZN} {s:Nat→V},A.wp D σ Q s→∃ e s',Q e s'∧∀ Q':ZN,Q' e s'→A.wp D σ Q' s:=by
 intro A
 induction A with
 | skip=>intro Q s h;exact ⟨_,_,h,fun _ h=>h⟩
 | reg pk is ep=>
   intro Q s h
   simp only [AC.wp] at h ⊢
   cases h0:UQ pk s with
   | none=>simp only [h0] at h
   | some s0=>
     simp only [h0] at h ⊢
     cases h1:XH D σ is s0 with
     | none=>simp only [h1] at h
     | some s1=>
       simp only [h1] at h ⊢
       cases h2:UQ ep s1 with
       | none=>simp only [h2] at h
       | some s2=>simp only [h2] at h ⊢;exact ⟨_,_,h,fun _ h=>h⟩
 | seq a b iha ihb=>
   intro Q s h
   obtain ⟨e,s1,h1,h2⟩:=iha h
   cases e with
   | nrm=>
     obtain ⟨e2,s2,h3,h4⟩:=ihb h1
     exact ⟨e2,s2,h3,fun Q' hq=>h2 _ (h4 Q' hq)⟩
   | exit id=>exact ⟨_,_,h1,fun Q' hq=>h2 _ hq⟩
   | ret=>exact ⟨_,_,h1,fun Q' hq=>h2 _ hq⟩
 | cond c a b iha ihb=>
   intro Q s h
   simp only [AC.wp] at h ⊢
   cases hc:c.ev s with
   | bool t=>
     simp only [hc] at h ⊢
     cases t with
     | true=>exact iha h
     | false=>exact ihb h
   | _=>simp only [hc] at h
 | block id a ih=>
   intro Q s h
   obtain ⟨e,s1,h1,h2⟩:=ih h
   cases e with
   | nrm=>exact ⟨.nrm,s1,h1,fun Q' hq=>h2 _ hq⟩
   | ret=>exact ⟨.ret,s1,h1,fun Q' hq=>h2 _ hq⟩
   | exit i=>
     simp only [ZN.blk] at h1
     split at h1
     · rename_i e;exact ⟨.nrm,s1,h1,fun Q' hq=>h2 _ (by simp only [ZN.blk,if_pos e];exact hq)⟩
     · rename_i e;exact ⟨.exit i,s1,h1,fun Q' hq=>h2 _ (by simp only [ZN.blk,if_neg e];exact hq)⟩
 | loop a ih=>
   intro Q s h
   obtain ⟨n,hn⟩:=h
   have key:∀ n s,rounds (a.wp D σ) Q n s→∃ e s',Q e s'∧∀ Q':ZN,Q' e s'→∃ m,rounds (a.wp D σ) Q' m s:=by
    intro n
    induction n with
    | zero=>intro s h;exact h.elim
    | succ n ihn=>
      intro s h
      obtain ⟨e,s1,h1,h2⟩:=ih h
      cases e with
      | nrm=>
        obtain ⟨e2,s2,h3,h4⟩:=ihn s1 h1
        refine ⟨e2,s2,h3,fun Q' hq=>?_⟩
        obtain ⟨m,hm⟩:=h4 Q' hq
        exact ⟨m + 1,h2 _ hm⟩
      | exit id=>exact ⟨_,_,h1,fun Q' hq=>⟨1,h2 _ hq⟩⟩
      | ret=>exact ⟨_,_,h1,fun Q' hq=>⟨1,h2 _ hq⟩⟩
   exact key n s hn
 | exit id=>intro Q s h;exact ⟨_,_,h,fun _ h=>h⟩
 | ret=>intro Q s h;exact ⟨_,_,h,fun _ h=>h⟩
theorem NM {a:AC} {Q:ZN} {s:Nat→V} (h:a.wp D σ (ZN.thn (fun s=>∃ n,rounds (a.wp D σ) Q n s) Q) s):∃ n,rounds (a.wp D σ) Q n s:=by
 obtain ⟨e,s1,h1,h2⟩:=zng a h
 cases e with
 | nrm=>
   obtain ⟨n,hn⟩:=h1
   exact ⟨n + 1,h2 _ hn⟩
 | exit id=>exact ⟨1,h2 _ h1⟩
 | ret=>exact ⟨1,h2 _ h1⟩
def zhu (D:Den) (σ:Sig) (R:(Nat→V)→Prop):Cf→(Nat→V)→Prop
 | .run a k,s=>a.wp D σ (Js D σ R k) s
 | .nrm k,s=>Js D σ R k .nrm s
 | .ext id k,s=>Js D σ R k (.exit id) s
theorem MX {c:Cf} {s:Nat→V} (h:Run D σ R c s):zhu D σ R c s:=by
 induction h with
 | skip _ ih=>exact ih
 | reg h0 h1 h2 _ ih=>simp only [zhu,AC.wp,h0,h1,h2];exact ih
 | seq _ ih=>exact ih
 | cond hc _ ih=>
   rename_i t _
   simp only [zhu,AC.wp,hc] at ih ⊢
   cases t
   · exact ih
   · exact ih
 | block _ ih=>exact ih
 | loop _ ih=>exact NM ih
 | exit _ ih=>exact ih
 | ret h=>exact JJ h _
 | nil h=>exact ⟨.inl rfl,h⟩
 | nsq _ ih=>exact ih
 | nbk _ ih=>exact ih
 | nlp _ ih=>exact NM ih
 | esq _ ih=>exact ih
 | ebk _ ih=>simp only [zhu,Js,ZN.blk,if_true];exact ih
 | ebn hn _ ih=>simp only [zhu,Js,ZN.blk,if_neg hn];exact ih
 | elp _ ih=>exact ih
theorem Uy {P:Program} (hF:zF P D σ) (hm:P.follows .mixedOrders=true) {f:Nat} {fn:Func} {c:Code} (hf:P.funcs[f]?=some fn) (hb:fn.body=some c) {an:List An} {A:AC} (hc:cC P fn.ntmps an c=some A)
    {m:Nat} {al:Bool} {args:List V} {r:V} (hn:args.length≤fn.ntmps)
    (h:Run D σ (fun s=>(MV P s fn.results.toList).bind (fin m al)=some r) (.run A []) (init args)) (hnt:Nat.ble fn.ntmps zN=true:=by decide) (hmp:Nat.ble zN m=false:=by rfl):xZ P f m al args r:=by
 have h1:=zb3 hF hm hf hb hc hn hnt (MX h)
 unfold xZ
 rw [if_neg (by rintro rfl;exact absurd hmp (by decide)),if_neg (by rintro rfl;exact absurd hmp (by decide)),if_neg (by rintro rfl;exact absurd hmp (by decide))]
 exact h1
variable {s:Nat→V} {K:(Nat→V)→Prop} {is:List I}
theorem zA {pk ep k} (h:epK pk s fun s0=>goK D σ is s0 fun s1=>epK ep s1 (Run D σ R (.nrm k))):Run D σ R (.run (.reg pk is ep) k) s:=by
 obtain ⟨s0,h5,h6⟩:=M9 _ _ _ h
 obtain ⟨s1,h1,h2⟩:=W5 _ _ _ h6
 obtain ⟨s2,h3,h4⟩:=M9 _ _ _ h2
 exact .reg h5 h1 h3 h4
theorem zp {γ:Type} {r:γ} {A B:Option γ} {c:O} {a b:AC} {k:List Fr} {t:Bool} (hc:c.ev s = .bool t) (h:(bif t then A else B)=some r)
    (h1:A=some r→Run D σ R (.run a k) s) (h2:B=some r→Run D σ R (.run b k) s):Run D σ R (.run (.cond c a b) k) s:=by
 refine .cond hc ?_
 cases t with
 | true=>exact h1 h
 | false=>exact h2 h
theorem zc {α β:Type} {x:Option α} {f:α→Option β} {r:β} (h:x.bind f=some r):∃ a,x=some a∧f a=some r:=by
 cases x with
 | none=>cases h
 | some a=>exact ⟨a,rfl,h⟩
def zu:List (Nat×V)→(Nat→V)→Prop
 | [],_=>True
 | [(t,v)],s=>s t=v
 | (t,v) :: L,s=>s t=v∧zu L s
theorem g_v {d:Nat} {l:Bool} {a:A} (v:V) (h:yi s a=some v) (H:goK D σ is (upd s d v) K):goK D σ (⟨some d,none,l,.v a⟩ :: is) s K:=by
 simp only [goK,zuK,h,put];exact H
theorem zt {d j:Nat} {l b:Bool} {x:X} (hj:s j = .bool b) (H:goK D σ (⟨some d,none,l,x⟩ :: is) s K):goK D σ (⟨some d,some (j,b),l,x⟩ :: is) s K:=by
 simp only [goK,hj,if_true];exact H
theorem yY {d j:Nat} {l b:Bool} {x:X} (hj:s j = .bool (!b)) (H:goK D σ is (upd s d (.tup [])) K):goK D σ (⟨some d,some (j,b),l,x⟩ :: is) s K:=by
 simp only [goK,hj]
 rw [if_neg (by cases b <;> simp)];exact H
theorem UD {d j:Nat} {l b:Bool} {x:X} (hj:s j = .tup []) (H:goK D σ is (upd s d (.tup [])) K):goK D σ (⟨some d,some (j,b),l,x⟩ :: is) s K:=by
 simp only [goK,hj];exact H
theorem xU {d:Nat} {l:Bool} {x:O} (v:V) (h:x.rd s=some v) (hg:s d = .gone) (hm:v.mem=true) (H:goK D σ is (upd s d (.ref (.bx d) 0 [] v)) K):goK D σ (⟨some d,none,l,.box x⟩ :: is) s K:=by
 simp only [goK,xK,yI,h,hg,hm,if_true];exact H
theorem yR {d:Nat} {l:Bool} {z:V} (hg:s d = .gone) (H:goK D σ is (upd s d (.ref (.bx d) 0 [] z)) K):goK D σ (⟨some d,none,l,.alloc z⟩ :: is) s K:=by
 simp only [goK,xK,yI,hg];exact H
theorem z5 {l:Bool} {g:Sh} {x y:O} {t i q c} (v:V) (hx:x.rd s=some (.ref t i q c)) (hy:y.rd s=some v) (h:t≠.sh∧t≠.nl∧v.mem=true∧v.shape.beq g=true∧c.shape.beq g=true∧v.toks.contains t=false)
    (H:goK D σ is (WF t i q v s) K):goK D σ (⟨none,none,l,.store g x y⟩ :: is) s K:=by
 simp only [goK,xK,yI,hx,hy];rw [if_pos h];exact H
end
def zm {α:Type} [Enc α] (t:Tok):NL α→V
 | .nil=>.sl .nl (Enc.shp α) 0 []
 | .of xs=>.sl t (Enc.shp α) 0 (xs.map Enc.enc)
def idx {α:Type} (xs:List α) (i:Int):Option α:=if 0≤i then xs[i.toNat]? else none
def mkN {α:Type} (m:Int) (x:α):Option (List α):=if 0≤m∧m≤2 ^ 40 then some (List.replicate m.toNat x) else none
def zkv {α:Type} (o:NL α) (ys:List α):Option (NL α):=if o.list.length + ys.length≤2 ^ 40 then (match o,ys with
 | .nil,[]=>some .nil
 | o,ys=>some (.of (o.list++ys))) else none
def sub {α:Type} (xs:List α) (a b:Int):Option (List α):=if 0≤a∧a≤b∧b≤xs.length then some ((xs.drop a.toNat).take (b.toNat - a.toNat)) else none
def zr9 (pk:List Nat) (k:Tok):Option Tok:=if pk.any (fun r=>k.root? == some r) then none else some k
def XT (t:Tok) (k:Tok):Option Tok:=if k == t then none else some k
section
variable {D:Den} {σ:Sig} {R:(Nat→V)→Prop} {s:Nat→V} {K:(Nat→V)→Prop} {is:List I}
theorem zo {α:Type} [Enc α] {f:Tok→Option Tok} {r:Nat} {p:List Nat} {t':Tok} {o:NL α} (hf:f (.at r p)=some t') (hn:f .nl=some .nl):V.map f (zm (.at r p) o)=zm t' o:=by
 cases o with
 | nil=>simp [zm,V.map,hn,V.maps]
 | of xs=>simp [zm,V.map,hf,N4]
theorem vK {α:Type} [Enc α] {t:Tok} {o:NL α}:(zm t o).erase=Enc.enc o.list:=by
 cases o with
 | nil=>simp [zm,V.erase,NL.list,Enc.enc,V.erases]
 | of xs=>simp [zm,V.erase,NL.list,Enc.enc,Yp]
theorem zx {x:O} {v:V} (h:x.ev s=v) (hk:v.ok=true):x.rd s=some v:=by
 unfold O.rd;rw [h,if_pos hk]
theorem zlC {x:O} {v:V} (h:x.ev s=v) (hk:v.ok=true):x.pk s=v:=by
 unfold O.pk;rw [h];cases v <;> first | rfl | simp [V.ok] at hk
theorem zid {α:Type} [Enc α] {x:O} {t:Tok} {h:Sh} {lo:Nat} {xs:List α} (hx:x.ev s = .sl t h lo (xs.map Enc.enc)):yi s (.len x)=some (.int .i64 xs.length):=by
 simp only [yi,zlC hx rfl,List.length_map]
theorem XZ {α:Type} [Enc α] {x:O} {t:Tok} {o:NL α} (hx:x.ev s=zm t o):yi s (.len x)=some (.int .i64 o.list.length):=by
 cases o with
 | nil=>simp only [yi,zm] at hx ⊢;rw [zlC hx rfl];rfl
 | of xs=>exact zid (h:=Enc.shp α) (lo:=0) hx
theorem yV {α:Type} [Enc α] {x i:O} {t:Tok} {lo e:Nat} {xs:List α} {k:IntKind} {n:Int} {a:α} (hx:x.ev s = .sl t (Enc.shp α) lo (xs.map Enc.enc)) (hi:i.ev s = .int k n) (ha:idx xs n=some a)
    (he:(Enc.shp α).size=e) (ht:(t != .nl && !t.isBx)=true):yi s (.idx x i e)=some (.ref t (if t = .sh then 0 else lo + n.toNat) [] (Enc.enc a)):=by
 unfold idx at ha
 split at ha
 · rename_i h0
   simp only [yi,zx hx rfl,zx hi rfl,h0,if_true,List.getElem?_map,ha,ym,he,Yw,yk,ht]
 · cases ha
theorem vZ {α:Type} [Enc α] {x i:O} {r:Nat} {p:List Nat} {e:Nat} {o:NL α} {k:IntKind} {n:Int} {a:α} (hx:x.ev s=zm (.at r p) o) (hi:i.ev s = .int k n) (ha:idx o.list n=some a)
    (he:(Enc.shp α).size=e):yi s (.idx x i e)=some (.ref (.at r p) n.toNat [] (Enc.enc a)):=by
 cases o with
 | nil=>simp [idx,NL.list] at ha
 | of xs=>
   have:=yV (t:=.at r p) (lo:=0) hx hi ha he (by simp [Tok.isBx])
   simpa using this
theorem zph {α:Type} [Enc α] {d:Nat} {n:O} {z z0:V} {k:IntKind} {m:Int} {xs:List α} (x:α) (hn:n.ev s = .int k m) (hz:z=Enc.enc x) (hg:s d = .gone) (ho:mkN m x=some xs)
    (H:goK D σ is (upd s d (.sl (.at d []) (Enc.shp α) 0 (xs.map Enc.enc))) K):goK D σ (⟨some d,none,false,.mk n z z0⟩ :: is) s K:=by
 unfold mkN at ho
 split at ho
 · rename_i hb
   simp only [zg] at ho;subst ho;subst hz
   simp only [goK,xK,yI,zx hn rfl,hg,if_pos hb]
   simp only [ya,if_false,Enc.shape_enc]
   simp only [List.map_replicate] at H
   exact H
 · cases ho
theorem zom {d:Nat} {z:V} {len:Nat} {ps:List (Nat×Nat×O)} (vs:List V) (h:xz s ps (List.replicate len z)=some vs) (hg:s d = .gone)
    (H:goK D σ is (upd s d (.sl (.at d []) z.shape 0 vs)) K):goK D σ (⟨some d,none,false,.lit z len ps⟩ :: is) s K:=by
 simp only [goK,xK,yI,h,hg]
 simp only [ya,if_false]
 exact H
theorem XQ {α:Type} [Enc α] {d r q:Nat} {p:List Nat} {g:Sh} {o o':NL α} {ys:List α} {y:O} {t2:Tok} {lo2:Nat} (hx:s r=zm (.at q p) o) (hy:y.ev s = .sl t2 (Enc.shp α) lo2 (ys.map Enc.enc)) (hgg:g=Enc.shp α) (hg:s d = .gone) (ha:zkv o ys=some o')
    (H:∀ s1,(∀ t v u,s t=v→V.map (XT (.at q p)) v=u→(o = .nil→v=u)→s1 t=u)→goK D σ is (upd s1 d (zm (.at d []) o')) K):goK D σ (⟨some d,none,false,.app g (.t r) y⟩ :: is) s K:=by
 subst hgg
 unfold zkv at ha
 split at ha
 · rename_i hlen
   cases o with
   | nil=>
     have hsp:spent s (.t r)=some (s,.sl .nl (Enc.shp α) 0 []):=by simp only [spent];rw [hx];rfl
     simp only [goK,xK,yI,hsp,zx hy rfl,hg,Sh.beq_refl,vf,List.isEmpty_nil,Bool.or_true,yk]
     simp only [NL.list,List.length_nil] at hlen
     rw [if_pos (by simpa using hlen)]
     have:=H s (fun t v u h1 _ h3=>h1.trans (h3 rfl))
     simp only [um,ya,if_false]
     have e:JU d .nl (Enc.shp α) [] (ys.map Enc.enc)=zm (.at d []) o':=by
      cases ys with
      | nil=>simp at ha;subst ha;rfl
      | cons y ys=>simp [NL.list] at ha;subst ha;rfl
     rw [e];exact this
   | of xs=>
     have hsp:spent s (.t r)=some (XK (XT (.at q p)) s,.sl (.at q p) (Enc.shp α) 0 (xs.map Enc.enc)):=by
      simp only [spent];rw [hx];simp only [zm,vf,List.contains_nil,vg,if_true];rfl
     have hgd:XK (XT (.at q p)) s d = .gone:=by simp only [XK,hg];rfl
     simp only [goK,xK,yI,hsp,zx hy rfl,hgd,Sh.beq_refl,vf,List.isEmpty_nil,Bool.or_true,yk]
     simp only [NL.list] at hlen
     rw [if_pos (by simpa using hlen)]
     have:=H (XK (XT (.at q p)) s) (fun t v u h1 h2 _=>by simp only [XK,h1];exact h2)
     simp only [um,ya,if_false]
     have e:JU d (.at q p) (Enc.shp α) (xs.map Enc.enc) (ys.map Enc.enc)=zm (.at d []) o':=by
      have:o' = .of (xs++ys):=by cases ys <;> simp [NL.list] at ha <;> simp [ha.symm]
      subst this
      simp [JU,zm]
     rw [e];exact this
 · cases ha
theorem UA {d g m:Nat} {al:Bool} {as:List O} {r:V} (vs:List V) (hv:xg as s=some (vs,s)) (hD:D g vs=some r) (hσ:σ g=some (m,al)) (hal:(al && !(xn s as).isEmpty)=false)
    (hr:r.toks=[]) (ht:(V.tag d [] m r).toks=[]) (hok:(V.tag d [] m r).ok=true) (H:goK D σ is (upd s d (V.tag d [] m r)) K) (hmp:Nat.ble zN m=false:=by rfl) (hgm:Nat.ble Zt g=false:=by rfl):goK D σ (⟨some d,none,false,.call (.k (.fn g [] [])) as⟩ :: is) s K:=by
 have h0:(V.fn g [] []).toks=[]:=by simp [V.toks,V.tokss]
 have h1:O.rd s (.k (.fn g [] []))=some (.fn g [] []):=rfl
 have hal':¬ ((al && !((xn s as).isEmpty && (V.fn g [] []).toks.isEmpty))=true):=by simp [h0];simpa using hal
 simp only [goK,xK,yI,JY,h1,hv,V.erases,Yl,xj,key,zk,hD,hσ,hgm,ya,if_false]
 rw [if_neg hal']
 simp only [hr,hmp,vg,List.isEmpty_nil,List.all_nil,wK,if_true,yd,place,ht,hok,put]
 exact H
end
section
variable {D:Den} {σ:Sig} {R:(Nat→V)→Prop} {s:Nat→V} {K:(Nat→V)→Prop} {is:List I}
theorem xo {ep:List E} (H:epK ep s K):goK D σ [] s (fun s1=>epK ep s1 K):=H
theorem zqb (H:K s):epK [] s K:=H
theorem zua {d:Nat} {l:Bool} {a:A} (v:V) (he:yi (fun _=>.dead) a=some v) (hr:a.rds=[]) (H:goK D σ is (upd s d v) K):goK D σ (⟨some d,none,l,.v a⟩ :: is) s K:=
 g_v v (by rw [uC (s2:=fun _=>.dead) (by rw [hr];intro t ht;cases ht)];exact he) H
theorem ztR {d:Nat} {l:Bool} {a:A} {t:Nat} {u:V} (v:V) (h:s t=u) (he:yi (fun _=>u) a=some v) (hr:(a.rds.all fun k=>k == t)=true) (H:goK D σ is (upd s d v) K):goK D σ (⟨some d,none,l,.v a⟩ :: is) s K:=
 g_v v (by
  rw [uC (s2:=fun _=>u)]
  · exact he
  · intro k hk
    have:=yE.1 hr k hk
    simp at this;subst this;exact h) H
theorem zuN {d:Nat} {l:Bool} {a:A} {t1 t2:Nat} {u1 u2:V} (v:V) (h1:s t1=u1) (h2:s t2=u2) (he:yi (fun k=>if k=t1 then u1 else u2) a=some v) (hr:(a.rds.all fun k=>k == t1 || k == t2)=true) (H:goK D σ is (upd s d v) K) :
    goK D σ (⟨some d,none,l,.v a⟩ :: is) s K:=
 g_v v (by
  rw [uC (s2:=fun k=>if k=t1 then u1 else u2)]
  · exact he
  · intro k hk
    have:=yE.1 hr k hk
    simp only [yB,yC] at this
    by_cases e:k=t1
    · simp only [e,if_true];exact h1
    · have:k=t2:=this.resolve_left e
      subst this;simp only [if_neg e];exact h2) H
end
abbrev w64 (x:Int):Int:=IntKind.i64.wrap x
def yu (k:IntKind) (x y:Int):Int:=k.wrap (BitVec.ofInt k.bits x &&& BitVec.ofInt k.bits y).toNat
def ior (k:IntKind) (x y:Int):Int:=k.wrap (BitVec.ofInt k.bits x ||| BitVec.ofInt k.bits y).toNat
def zY (k:IntKind) (x y:Int):Int:=k.wrap (BitVec.ofInt k.bits x &&& ~~~BitVec.ofInt k.bits y).toNat
def RR (P:Program) (rs:List ResultVar) (m:Nat) (al:Bool) (r:V) (s:Nat→V):Prop:=(MV P s rs).bind (fin m al)=some r
instance {α:Type} [Enc α]:Ret (List α):=⟨Enc.enc⟩
section
variable {D:Den} {σ:Sig} {R:(Nat→V)→Prop} {s:Nat→V} {P:Program}
theorem zgo {c:O} {a b:AC} {k:List Fr} (hc:c.ev s = .bool false) (h:Run D σ R (.run b k) s):Run D σ R (.run (.cond c a b) k) s:=.cond hc h
theorem yj {γ:Type} {r:γ} {A B:Option γ} {c:Bool} {G:Prop} (h:(bif c then A else B)=some r) (h1:c=true→A=some r→G) (h2:c=false→B=some r→G):G:=by
 cases c with
 | true=>exact h1 rfl h
 | false=>exact h2 rfl h
theorem zI:xg [] s=some ([],s):=rfl
theorem zh {s1:Nat→V} {x:O} {xs:List O} {v u:V} {vs:List V} (h:x.ev s=v) (hk:v.ok=true) (he:v.erase=u) (hvs:xg xs s=some (vs,s1)):xg (x :: xs) s=some (u :: vs,s1):=by
 subst he
 simp only [xg,h]
 cases v <;> first | (simp [V.ok] at hk;done) | simp only [hvs,ym]
theorem UW:xn s []=[]:=rfl
theorem Z4 {x:O} {xs:List O} {v:V} (h:x.ev s=v) (hk:v.ok=true) (h0:v.toks=[]) (hs:xn s xs=[]):xn s (x :: xs)=[]:=by
 simp only [xn,h,hs,xj]
 cases v <;> first | (simp [V.ok] at hk;done) | exact h0
theorem Jl {as:List O} {al:Bool} (h:xn s as=[]):(al && !(xn s as).isEmpty)=false:=by simp [h]
variable {K:(Nat→V)→Prop} {is:List I}
def Li:List (Nat×V)→Nat→V
 | [],_=>.dead
 | (t,v) :: L,k=>if k=t then v else Li L k
theorem KM:∀ (L:List (Nat×V)) (s:Nat→V),zu L s→∀ k,(L.any fun x=>x.1 == k)=true→s k=Li L k
 | [],_,_,k,h=>by simp at h
 | [(t,v)],s,hf,k,h=>by
   simp only [List.any_cons,List.any_nil,Bool.or_false,yC] at h
   subst h;simp only [Li,if_true];exact hf
 | (t,v) :: y :: L,s,hf,k,h=>by
   by_cases e:k=t
   · subst e;simp only [Li,if_true];exact hf.1
   · rw [Li,if_neg e]
     refine KM (y :: L) s hf.2 k ?_
     simp only [List.any_cons,yB,yC] at h ⊢
     exact h.resolve_left fun h=>e h.symm
theorem wA {d:Nat} {z:V} {len:Nat} {ps:List (Nat×Nat×O)} (L:List (Nat×V)) (vs:List V) (hs:zu L s) (h:xz (Li L) ps (List.replicate len z)=some vs)
    (hr:((ps.flatMap fun p=>p.2.2.rds).all fun k=>L.any fun x=>x.1 == k)=true) (hg:s d = .gone)
    (H:goK D σ is (upd s d (.sl (.at d []) z.shape 0 vs)) K):goK D σ (⟨some d,none,false,.lit z len ps⟩ :: is) s K:=
 zom vs (by rw [w7 (s2:=Li L) fun k hk=>KM L s hs k (yE.1 hr k hk)];exact h) hg H
theorem zZ {pk:List Nat} {es:List E} (H:epK es (clear pk s) K):epK (.clr pk :: es) s K:=H
theorem za {pk:List Nat} {t:Nat} {v:V} (h:s t=v) (hn:pk.contains t=false) (hm:V.map (zr9 pk) v=v):clear pk s t=v:=by
 simp only [clear,hn,h];exact hm
theorem ze {pk:List Nat} {t:Nat} (hn:pk.contains t=true):clear pk s t = .gone:=by
 simp only [clear,hn,if_true]
theorem y0 {r x:Nat} {es:List E} {v:V} (hx:s x=v) (hk:v.ok=true) (H:∀ s1,(∀ t u u',s t=u→V.map (UO r x) u=u'→s1 t=u')→epK es s1 K) (hp:Nat.ble zN x=false:=by rfl):epK (.home r x :: es) s K:=by
 have:JW s (.home r x)=some (XK (UO r x) s):=by
  simp only [JW,hx,hp]
  cases v <;> first | (simp [V.ok] at hk;done) | rfl
 simp only [epK,this]
 exact H _ fun t u u' h1 h2=>by simp only [XK,h1,h2]
theorem Mr {x:Nat} {es:List E} {v:V} (ks:List Tok) (hx:s x=v) (hk:v.toks=ks) (H:∀ s1,(∀ t u u',s t=u→V.frz ks u=u'→s1 t=u')→epK es s1 K):epK (.frz x :: es) s K:=by
 have:JW s (.frz x)=some fun t=>V.frz ks (s t):=by simp only [JW,hx,hk]
 simp only [epK,this]
 exact H _ fun t u u' h1 h2=>by simp only [h1,h2]
theorem zR {s1:Nat→V} {tk:Tok} {t:Nat} {v:V} {N:Prop} (hs:∀ t v u,s t=v→V.map (XT tk) v=u→(N→v=u)→s1 t=u) (h:s t=v) (hm:V.map (XT tk) v=v):s1 t=v:=hs t v v h hm (fun _=>rfl)
theorem uQ {s1:Nat→V} {tk:Tok} {t:Nat} {v u:V} {N:Prop} (hs:∀ t v u,s t=v→V.map (XT tk) v=u→(N→v=u)→s1 t=u) (h:s t=v) (hm:V.map (XT tk) v=u) (hn:N→v=u):s1 t=u:=hs t v u h hm hn
theorem zH {f:Tok→Option Tok} {vs us:List V} (h:V.maps f vs=us):V.map f (.agg vs) = .agg us:=by simp only [V.map,h]
theorem zn {f:Tok→Option Tok}:V.maps f []=[]:=rfl
theorem zf {f:Tok→Option Tok} {v u:V} {vs us:List V} (h:V.map f v=u) (hs:V.maps f vs=us):V.maps f (v :: vs)=u :: us:=by simp only [V.maps,h,hs]
theorem zi {f:Tok→Option Tok} {r r' i:Nat} {q:List Nat} {c u:V} (hf:f (.bx r)=some (.bx r')) (h:V.map f c=u):V.map f (.ref (.bx r) i q c) = .ref (.bx r') i q u:=by simp only [V.map,hf,h]
def vL {α:Type} (xs ys:List α):Option (List α):=if xs.length + ys.length≤2 ^ 40 then some (xs++ys) else none
theorem ZT {α:Type} {o:NL α} {ys zs:List α} (h:vL o.list ys=some zs) (hn:(match o with | .of _=>True | .nil=>ys≠[])):zkv o ys=some (.of zs):=by
 unfold vL at h
 unfold zkv
 split at h
 · rename_i hl
   rw [if_pos hl]
   simp only [zg] at h;subst h
   cases o with
   | nil=>cases ys with
     | nil=>exact absurd rfl hn
     | cons y ys=>rfl
   | of xs=>cases ys <;> rfl
 · cases h
structure zdb (v r:V):Prop where
 own:∀ p,V.own p 0 v=some []
 ret:V.ret 0 v=r
theorem wx {α:Type} [Enc α] {x:α}:zdb (Enc.enc x) (Enc.enc x):=⟨fun p=>Enc.own0 p x,Enc.ret0 x⟩
theorem vk {α:Type} [Enc α] {t:Tok} {o:NL α}:zdb (zm t o) (Enc.enc o.list):=by
 cases o with
 | nil=>exact ⟨fun p=>rfl,by simp [zm,V.ret,NL.list,Enc.enc,V.erases]⟩
 | of xs=>exact ⟨fun p=>rfl,by simp [zm,V.ret,NL.list,Enc.enc,Yp]⟩
theorem YU {v r:V} (h:zdb v r):fin 0 true v=some r:=by
 simp only [fin,h.own,List.map_nil,List.all_nil,Bool.true_or,Bool.and_true,h.ret]
 simp
theorem zd {tk:Tok} {i:Nat} {q:List Nat} {u:V} {t:Nat} {v v':V} (h:s t=v) (hm:V.mut tk i q u v=v'):WF tk i q u s t=v':=by
 simp only [WF,h];exact hm
theorem La (u:V):∀ (vs:List V) (i:Nat),V.setPs vs i [] u=vs.set i u
 | [],_=>by simp [V.setPs]
 | v :: vs,0=>by simp [V.setPs,V.setP]
 | v :: vs,i + 1=>by simp [V.setPs,La u vs i]
theorem KU {α:Type} [Enc α] (tk:Tok) (i:Nat) (q:List Nat) (u:V):∀ xs:List α,V.muts tk i q u (xs.map Enc.enc)=xs.map Enc.enc
 | []=>rfl
 | x :: xs=>by simp [V.muts,Enc.mut_enc,KU tk i q u xs]
theorem Kb {α:Type} [Enc α] {r:Nat} {p:List Nat} {i:Nat} {u:α} {xs:List α}:V.mut (.at r p) i [] (Enc.enc u) (zm (.at r p) (.of xs))=zm (.at r p) (.of (xs.set i u)):=by
 simp [zm,V.mut,KU,La,List.map_set]
theorem wS {α:Type} [Enc α] {tk:Tok} {r:Nat} {p:List Nat} {i:Nat} {q:List Nat} {u:V} {o:NL α} (hn:(tk == .at r p)=false) (hl:(tk == .nl)=false):V.mut tk i q u (zm (.at r p) o)=zm (.at r p) o:=by
 simp only [beq_eq_false_iff_ne,ne_eq] at hn hl
 cases o with
 | nil=>simp [zm,V.mut,hl,V.muts]
 | of xs=>simp [zm,V.mut,hn,KU]
theorem yx {tk:Tok} {i:Nat} {q:List Nat} {u:V} {vs us:List V} (h:V.muts tk i q u vs=us):V.mut tk i q u (.agg vs) = .agg us:=by simp only [V.mut,h]
theorem zq {tk:Tok} {i:Nat} {q:List Nat} {u:V} {v w:V} {vs us:List V} (h:V.mut tk i q u v=w) (hs:V.muts tk i q u vs=us):V.muts tk i q u (v :: vs)=w :: us:=by simp only [V.muts,h,hs]
def zhY (k:IntKind) (x y:Int):Option Int:=if y=0 then none else some (x.tmod y)
def WZ (k:IntKind) (x y:Int):Option Int:=if y < 0 then none else some (k.wrap (x * 2 ^ (min y.toNat k.bits)))
def Uq (k:IntKind) (x y:Int):Option Int:=if y < 0 then none else some (x.fdiv (2 ^ (min y.toNat k.bits)))
theorem zmd {k:IntKind} {x y:O} {a b v:Int} (hx:x.ev s = .int k a) (hy:y.ev s = .int k b) (h:zhY k a b=some v):yi s (.bin .rem x y)=some (.int k v):=by
 unfold zhY at h
 split at h
 · cases h
 · rename_i h0;simp only [zg] at h;subst h
   simp only [yi,zx hx rfl,zx hy rfl,Nh,if_true,XO,if_neg h0]
theorem YF {k k':IntKind} {x y:O} {a b v:Int} (hx:x.ev s = .int k a) (hy:y.ev s = .int k' b) (h:WZ k a b=some v):yi s (.bin .shl x y)=some (.int k v):=by
 unfold WZ at h
 split at h
 · cases h
 · rename_i h0;simp only [zg] at h;subst h
   simp only [yi,zx hx rfl,zx hy rfl,Nh,U7,if_neg h0]
theorem Xc {k k':IntKind} {x y:O} {a b v:Int} (hx:x.ev s = .int k a) (hy:y.ev s = .int k' b) (h:Uq k a b=some v):yi s (.bin .shr x y)=some (.int k v):=by
 unfold Uq at h
 split at h
 · cases h
 · rename_i h0;simp only [zg] at h;subst h
   simp only [yi,zx hx rfl,zx hy rfl,Nh,U7,if_neg h0]
end
structure S1 (α0:Type) where
 a:α0
instance {α0:Type} [Enc α0]:Enc (S1 α0) where
 enc x:=.agg [Enc.enc x.a]
 dec | .agg [u0]=>match Enc.dec u0 with
       | some x0=>some ⟨x0⟩
       | _=>none
     | _=>none
 shp:=.ag [Enc.shp α0]
 dec_enc x:=by simp [Enc.dec_enc]
 enc_dec v x h:=by
  split at h
  · split at h
    · rename_i h0
      simp only [zg] at h;subst h
      simp [Enc.enc_dec _ _ h0]
    · cases h
  · cases h
 shape_enc x:=by simp [V.shape,V.shapes,Enc.shape_enc]
 erase_enc x:=by simp [V.erase,V.erases,Enc.erase_enc]
 toks_enc x:=by simp [V.toks,V.tokss,Enc.toks_enc]
 map_enc f x:=by simp [V.map,V.maps,Enc.map_enc]
 mem_enc _:=rfl
 own0 p x:=by simp [V.own,V.owns,Enc.own0]
 low0 x:=by simp [V.low,V.lows,Enc.low0]
 ret0 x:=by simp [V.ret,V.rets,Enc.ret0]
 tag0 d p x:=by simp [V.tag,V.tags,Enc.tag0]
 frz_enc K x:=by simp [V.frz,V.frzs,Enc.frz_enc]
 mut_enc t i q u x:=by simp [V.mut,V.muts,Enc.mut_enc]
structure S3 (α0 α1 α2:Type) where
 a:α0
 b:α1
 c:α2
instance {α0 α1 α2:Type} [Enc α0] [Enc α1] [Enc α2]:Enc (S3 α0 α1 α2) where
 enc x:=.agg [Enc.enc x.a,Enc.enc x.b,Enc.enc x.c]
 dec | .agg [u0,u1,u2]=>match Enc.dec u0,Enc.dec u1,Enc.dec u2 with
       | some x0,some x1,some x2=>some ⟨x0,x1,x2⟩
       | _,_,_=>none
     | _=>none
 shp:=.ag [Enc.shp α0,Enc.shp α1,Enc.shp α2]
 dec_enc x:=by simp [Enc.dec_enc]
 enc_dec v x h:=by
  split at h
  · split at h
    · rename_i h0 h1 h2
      simp only [zg] at h;subst h
      simp [Enc.enc_dec _ _ h0,Enc.enc_dec _ _ h1,Enc.enc_dec _ _ h2]
    · cases h
  · cases h
 shape_enc x:=by simp [V.shape,V.shapes,Enc.shape_enc]
 erase_enc x:=by simp [V.erase,V.erases,Enc.erase_enc]
 toks_enc x:=by simp [V.toks,V.tokss,Enc.toks_enc]
 map_enc f x:=by simp [V.map,V.maps,Enc.map_enc]
 mem_enc _:=rfl
 own0 p x:=by simp [V.own,V.owns,Enc.own0]
 low0 x:=by simp [V.low,V.lows,Enc.low0]
 ret0 x:=by simp [V.ret,V.rets,Enc.ret0]
 tag0 d p x:=by simp [V.tag,V.tags,Enc.tag0]
 frz_enc K x:=by simp [V.frz,V.frzs,Enc.frz_enc]
 mut_enc t i q u x:=by simp [V.mut,V.muts,Enc.mut_enc]
structure S4 (α0 α1 α2 α3:Type) where
 a:α0
 b:α1
 c:α2
 d:α3
instance {α0 α1 α2 α3:Type} [Enc α0] [Enc α1] [Enc α2] [Enc α3]:Enc (S4 α0 α1 α2 α3) where
 enc x:=.agg [Enc.enc x.a,Enc.enc x.b,Enc.enc x.c,Enc.enc x.d]
 dec | .agg [u0,u1,u2,u3]=>match Enc.dec u0,Enc.dec u1,Enc.dec u2,Enc.dec u3 with
       | some x0,some x1,some x2,some x3=>some ⟨x0,x1,x2,x3⟩
       | _,_,_,_=>none
     | _=>none
 shp:=.ag [Enc.shp α0,Enc.shp α1,Enc.shp α2,Enc.shp α3]
 dec_enc x:=by simp [Enc.dec_enc]
 enc_dec v x h:=by
  split at h
  · split at h
    · rename_i h0 h1 h2 h3
      simp only [zg] at h;subst h
      simp [Enc.enc_dec _ _ h0,Enc.enc_dec _ _ h1,Enc.enc_dec _ _ h2,Enc.enc_dec _ _ h3]
    · cases h
  · cases h
 shape_enc x:=by simp [V.shape,V.shapes,Enc.shape_enc]
 erase_enc x:=by simp [V.erase,V.erases,Enc.erase_enc]
 toks_enc x:=by simp [V.toks,V.tokss,Enc.toks_enc]
 map_enc f x:=by simp [V.map,V.maps,Enc.map_enc]
 mem_enc _:=rfl
 own0 p x:=by simp [V.own,V.owns,Enc.own0]
 low0 x:=by simp [V.low,V.lows,Enc.low0]
 ret0 x:=by simp [V.ret,V.rets,Enc.ret0]
 tag0 d p x:=by simp [V.tag,V.tags,Enc.tag0]
 frz_enc K x:=by simp [V.frz,V.frzs,Enc.frz_enc]
 mut_enc t i q u x:=by simp [V.mut,V.muts,Enc.mut_enc]
structure S5 (α0 α1 α2 α3 α4:Type) where
 a:α0
 b:α1
 c:α2
 d:α3
 e:α4
instance {α0 α1 α2 α3 α4:Type} [Enc α0] [Enc α1] [Enc α2] [Enc α3] [Enc α4]:Enc (S5 α0 α1 α2 α3 α4) where
 enc x:=.agg [Enc.enc x.a,Enc.enc x.b,Enc.enc x.c,Enc.enc x.d,Enc.enc x.e]
 dec | .agg [u0,u1,u2,u3,u4]=>match Enc.dec u0,Enc.dec u1,Enc.dec u2,Enc.dec u3,Enc.dec u4 with
       | some x0,some x1,some x2,some x3,some x4=>some ⟨x0,x1,x2,x3,x4⟩
       | _,_,_,_,_=>none
     | _=>none
 shp:=.ag [Enc.shp α0,Enc.shp α1,Enc.shp α2,Enc.shp α3,Enc.shp α4]
 dec_enc x:=by simp [Enc.dec_enc]
 enc_dec v x h:=by
  split at h
  · split at h
    · rename_i h0 h1 h2 h3 h4
      simp only [zg] at h;subst h
      simp [Enc.enc_dec _ _ h0,Enc.enc_dec _ _ h1,Enc.enc_dec _ _ h2,Enc.enc_dec _ _ h3,Enc.enc_dec _ _ h4]
    · cases h
  · cases h
 shape_enc x:=by simp [V.shape,V.shapes,Enc.shape_enc]
 erase_enc x:=by simp [V.erase,V.erases,Enc.erase_enc]
 toks_enc x:=by simp [V.toks,V.tokss,Enc.toks_enc]
 map_enc f x:=by simp [V.map,V.maps,Enc.map_enc]
 mem_enc _:=rfl
 own0 p x:=by simp [V.own,V.owns,Enc.own0]
 low0 x:=by simp [V.low,V.lows,Enc.low0]
 ret0 x:=by simp [V.ret,V.rets,Enc.ret0]
 tag0 d p x:=by simp [V.tag,V.tags,Enc.tag0]
 frz_enc K x:=by simp [V.frz,V.frzs,Enc.frz_enc]
 mut_enc t i q u x:=by simp [V.mut,V.muts,Enc.mut_enc]
structure S6 (α0 α1 α2 α3 α4 α5:Type) where
 a:α0
 b:α1
 c:α2
 d:α3
 e:α4
 f:α5
instance {α0 α1 α2 α3 α4 α5:Type} [Enc α0] [Enc α1] [Enc α2] [Enc α3] [Enc α4] [Enc α5]:Enc (S6 α0 α1 α2 α3 α4 α5) where
 enc x:=.agg [Enc.enc x.a,Enc.enc x.b,Enc.enc x.c,Enc.enc x.d,Enc.enc x.e,Enc.enc x.f]
 dec | .agg [u0,u1,u2,u3,u4,u5]=>match Enc.dec u0,Enc.dec u1,Enc.dec u2,Enc.dec u3,Enc.dec u4,Enc.dec u5 with
       | some x0,some x1,some x2,some x3,some x4,some x5=>some ⟨x0,x1,x2,x3,x4,x5⟩
       | _,_,_,_,_,_=>none
     | _=>none
 shp:=.ag [Enc.shp α0,Enc.shp α1,Enc.shp α2,Enc.shp α3,Enc.shp α4,Enc.shp α5]
 dec_enc x:=by simp [Enc.dec_enc]
 enc_dec v x h:=by
  split at h
  · split at h
    · rename_i h0 h1 h2 h3 h4 h5
      simp only [zg] at h;subst h
      simp [Enc.enc_dec _ _ h0,Enc.enc_dec _ _ h1,Enc.enc_dec _ _ h2,Enc.enc_dec _ _ h3,Enc.enc_dec _ _ h4,Enc.enc_dec _ _ h5]
    · cases h
  · cases h
 shape_enc x:=by simp [V.shape,V.shapes,Enc.shape_enc]
 erase_enc x:=by simp [V.erase,V.erases,Enc.erase_enc]
 toks_enc x:=by simp [V.toks,V.tokss,Enc.toks_enc]
 map_enc f x:=by simp [V.map,V.maps,Enc.map_enc]
 mem_enc _:=rfl
 own0 p x:=by simp [V.own,V.owns,Enc.own0]
 low0 x:=by simp [V.low,V.lows,Enc.low0]
 ret0 x:=by simp [V.ret,V.rets,Enc.ret0]
 tag0 d p x:=by simp [V.tag,V.tags,Enc.tag0]
 frz_enc K x:=by simp [V.frz,V.frzs,Enc.frz_enc]
 mut_enc t i q u x:=by simp [V.mut,V.muts,Enc.mut_enc]
structure Kd (k:IntKind) where
 v:Int
instance {k:IntKind}:Enc (Kd k) where
 enc x:=.int k x.v
 dec | .int k' x=>if k'=k then some ⟨x⟩ else none
     | _=>none
 shp:=.s
 dec_enc _:=by simp
 enc_dec v x h:=by
  split at h
  · split at h
    · rename_i e;simp only [zg] at h;subst h;subst e;rfl
    · cases h
  · cases h
 shape_enc _:=rfl
 erase_enc _:=rfl
 toks_enc _:=rfl
 map_enc _ _:=rfl
 mem_enc _:=rfl
 own0 _ _:=rfl
 low0 _:=rfl
 ret0 _:=rfl
 tag0 _ _ _:=rfl
 frz_enc _ _:=rfl
 mut_enc _ _ _ _ _:=rfl
instance {k:IntKind}:Ret (Kd k):=⟨Enc.enc⟩
section
variable {s:Nat→V}
theorem zy {tk:Tok} {i:Nat} {q:List Nat} {u:V} {t':Tok} {i':Nat} {q':List Nat} {c c':V} (ht:(tk == t')=false) (hs:(t' == .sh)=false) (hc:V.mut tk i q u c=c'):V.mut tk i q u (.ref t' i' q' c) = .ref t' i' q' c':=by
 have h1:tk≠t':=by simpa using ht
 cases t' with
 | sh=>simp at hs
 | _=>simp only [V.mut,hc];rw [if_neg (by rintro ⟨h,_⟩;exact h1 h)]
end
section
variable {s:Nat→V} {P:Program}
theorem zr {t:Nat} {v:V} (h:s t=v):UV P s (.tmp t)=some v:=by simp only [UV,h]
theorem xO {a t i:Nat} {tk:Tok} {q:List Nat} {c:V} (h:s a = .ref tk i q c) (hc:(match shT P 6 t with | some h=>c.shape.beq h && (KH P t == some h.isAg && vc P t == some h.size) | none=>false)=true) :
    UV P s (.cell a t)=some c:=by
 simp only [UV,h]
 split at hc
 · rename_i h2;rw [h2];simp only [hc,if_true]
 · cases hc
theorem rrA {x:ResultVar} {m:Nat} {al:Bool} {v r:V} (h:UV P s x=some v) (hf:fin m al v=some r):RR P [x] m al r s:=by
 simp only [RR,MV,h,zb];exact hf
theorem rrB {x y:ResultVar} {m:Nat} {al:Bool} {u v r:V} (h:UV P s x=some u) (h2:UV P s y=some v) (hf:fin m al (.tup [u,v])=some r):RR P [x,y] m al r s:=by
 simp only [RR,MV,h,h2,zb];exact hf
structure zh0 (vs rs:List V):Prop where
 own:∀ p i,V.owns p 0 i vs=some []
 ret:V.rets 0 vs=rs
end
theorem wG:zh0 [] []:=⟨fun _ _=>rfl,rfl⟩
theorem yp {v r:V} {vs rs:List V} (h:zdb v r) (hs:zh0 vs rs):zh0 (v :: vs) (r :: rs):=⟨fun p i=>by simp [V.owns,h.own,hs.own],by simp [V.rets,h.ret,hs.ret]⟩
theorem JS {vs rs:List V} (h:zh0 vs rs):zdb (.agg vs) (.agg rs):=⟨fun p=>by simp [V.own,h.own],by simp [V.ret,h.ret]⟩
theorem ZF {vs rs:List V} (h:zh0 vs rs):zdb (.tup vs) (.tup rs):=⟨fun p=>by simp [V.own,h.own],by simp [V.ret,h.ret]⟩
def zbV (s:Nat→V) (d:Nat) (o:Option O) (n:Int):Prop:=match o with
 | none=>n=d
 | some x=>∃ k,x.ev s = .int k n
theorem ZD {s:Nat→V} {d:Nat}:zbV s d none d:=rfl
theorem ZC {s:Nat→V} {d:Nat} {x:O} {k:IntKind} {n:Int} (h:x.ev s = .int k n):zbV s d (some x) n:=⟨k,h⟩
theorem Km {s:Nat→V} {d:Nat} {o:Option O} {n:Int} (h:zbV s d o n) (h0:0≤n):Yg s d o=some n.toNat:=by
 cases o with
 | none=>simp only [zbV] at h;subst h;simp [Yg]
 | some x=>obtain ⟨k,h⟩:=h;simp [Yg,zx h rfl,h0]
theorem UZ {α:Type} [Enc α] {s:Nat→V} {x:O} {lo hi:Option O} {e:Nat} {xs ys:List α} {a b:Int} (hx:x.ev s = .sl .sh (Enc.shp α) 0 (xs.map Enc.enc)) (hl:zbV s 0 lo a) (hh:zbV s xs.length hi b) (h:sub xs a b=some ys)
    (he:(Enc.shp α).size=e):yi s (.slice x lo hi e)=some (.sl .sh (Enc.shp α) 0 (ys.map Enc.enc)):=by
 unfold sub at h
 split at h
 · rename_i hb
   simp only [zg] at h;subst h
   simp only [yi,zx hx rfl,Km hl hb.1,List.length_map]
   rw [Km hh (by omega)]
   simp only [he]
   rw [if_pos (by simp [Tok.isBx];omega)]
   simp [List.map_take,List.map_drop]
 · cases h
open Go.RowKit Go.ChangeShapes Go.Deep
def zcq (P:Program) (t:TypeId) (α:Type) [Enc α] (ok:α→Prop):Prop:=
 P.cellsOf t=(Enc.shp α).size ∧
 ∀ {H:Type} (en:TypeId×Value→H) (W:World) (fuel:Nat) (cs:List Value) (x:DataW H×List MemPlace),DataW.trod en P W 0 (fun _=>true) true fuel t cs=some x →
  ∃ a:α,ok a∧∀ (S:Nat→Prop) (τ:Tok→Blk),(∀ b,b < W.heap.size→S b)→zD W S τ (Enc.enc a) cs
variable {P:Program} {t:TypeId}
theorem Kr {α:Type} [Enc α] {w:World} {S:Nat→Prop} {τ:Tok→Blk}:∀ (xs:List α) (L:List Value),L.length=xs.length * (Enc.shp α).size →
    (∀ i a,xs[i]?=some a→zD w S τ (Enc.enc a) ((L.drop (i * (Enc.shp α).size)).take (Enc.shp α).size))→z7 w S τ (xs.map Enc.enc) L
 | [],L,hl,_=>by simp only [List.map_nil,z7];simpa using hl
 | x :: xs,L,hl,h=>by
   simp only [List.map_cons,z7,Enc.shape_enc]
   refine ⟨by simpa using h 0 x rfl,Kr xs _ ?_ ?_⟩
   · rw [List.length_drop,hl,Yx,Nat.succ_mul];omega
   · intro i a ha
     have:=h (i + 1) a (by simpa using ha)
     rw [List.drop_drop]
     rwa [show (Enc.shp α).size + i * (Enc.shp α).size=(i + 1) * (Enc.shp α).size by rw [Nat.succ_mul];omega]
theorem zc2 {α:Type} [Enc α] {oa:α→Prop} {e:TypeId} (ht:P.underlying t=some (.slice e)) (h0:zcq P e α oa) (hc:P.cellsOf t=1) (hp:0 < (Enc.shp α).size) :
    zcq P t (List α) (fun xs=>xs.length≤maxLen∧∀ x∈xs,oa x):=by
 refine ⟨hc,?_⟩
 intro H en W fuel cs x h
 rcases open_slice ht h with ⟨rfl,_⟩ | ⟨a,len,cap,m,n,D,Pl,rfl,_,hl,hm,hmm,_,hx⟩
 · exact ⟨[],⟨Nat.zero_le _,by simp⟩,fun S τ _=>by simp only [Enc.enc,zD,List.map_nil];exact ⟨_,0,rfl,Nat.zero_le _,by simp,fun _=>rfl,.inl rfl⟩⟩
 · simp only [if_true] at hmm
   subst hmm
   rw [h0.1] at hx
   have hx2:∀ i,i < m→∃ cs',W.cells? 0 (a.add (i * (Enc.shp α).size)) (Enc.shp α).size=some cs'∧∃ y:α,oa y∧∀ (S:Nat→Prop) (τ:Tok→Blk),(∀ b,b < W.heap.size→S b)→zD W S τ (Enc.enc y) cs':=by
    intro i hi
    obtain ⟨cs',h1,h2⟩:=hx i hi
    exact ⟨cs',h1,h0.2 en W n _ _ h2⟩
   by_cases hcap:m=0
   · subst hcap
     obtain rfl:len=0:=by omega
     exact ⟨[],⟨Nat.zero_le _,by simp⟩,fun S τ _=>by simp only [Enc.enc,zD,List.map_nil];exact ⟨_,0,rfl,Nat.zero_le _,by simp,fun _=>rfl,.inl rfl⟩⟩
   obtain ⟨cs0,hc0,_⟩:=hx2 0 (by omega)
   simp only [Nat.zero_mul] at hc0
   obtain ⟨_,hl0,hg0⟩:=World.cells?_some hc0
   have hz:=hg0 0 hp
   have hz1:cs0[0]?=some (cs0[0]'(by omega)):=z9 (by omega)
   rw [hz1] at hz
   have ha0:(a.add 0).add 0=a:=by simp [Addr.add]
   rw [ha0] at hz
   unfold World.cell? at hz
   split at hz
   · rename_i arr ty fz hheap
     split at hz
     · cases hz
     · rename_i hspot
       have hsp:a.spot=none:=by cases h:a.spot <;> simp_all
       have hadd:∀ k,a.add k=⟨a.block,a.off + k,none⟩:=by
        intro k;unfold Addr.add;split
        · rename_i hk;subst hk;cases a;simp_all
        · rfl
       have hcell:∀ k,W.cell? (a.add k)=arr[a.off + k]?:=by
        intro k;rw [hadd];simp [World.cell?,hheap]
       have hget:∀ i,i < m→∀ cs',W.cells? 0 (a.add (i * (Enc.shp α).size)) (Enc.shp α).size=some cs'→cs'.length=(Enc.shp α).size∧∀ j,j < (Enc.shp α).size→arr[a.off + (i * (Enc.shp α).size + j)]?=cs'[j]?:=by
        intro i hi cs' hcs
        obtain ⟨_,h1,h2⟩:=World.cells?_some hcs
        refine ⟨h1,fun j hj=>?_⟩
        rw [← h2 j hj,add_add,hcell]
       have hsize:a.off + m * (Enc.shp α).size≤arr.size:=by
        obtain ⟨cs',h1,_⟩:=hx2 (m - 1) (by omega)
        obtain ⟨h2,h3⟩:=hget (m - 1) (by omega) cs' h1
        have h4:=h3 ((Enc.shp α).size - 1) (by omega)
        rw [z9 (by omega)] at h4
        obtain ⟨h5,_⟩:=Array.getElem?_eq_some_iff.1 h4
        have:m * (Enc.shp α).size=(m - 1) * (Enc.shp α).size + (Enc.shp α).size:=by
         rw [← Nat.succ_mul];congr 1;omega
        omega
       have hch:∀ i,i < m→∃ y:α,oa y∧∀ (S:Nat→Prop) (τ:Tok→Blk),(∀ b,b < W.heap.size→S b)→zD W S τ (Enc.enc y) ((arr.toList.drop (a.off + i * (Enc.shp α).size)).take (Enc.shp α).size):=by
        intro i hi
        obtain ⟨cs',h1,y,h2,h3⟩:=hx2 i hi
        obtain ⟨h4,h5⟩:=hget i hi cs' h1
        have:((arr.toList.drop (a.off + i * (Enc.shp α).size)).take (Enc.shp α).size)=cs':=by
         apply List.ext_getElem?
         intro j
         by_cases hj:j < (Enc.shp α).size
         · rw [List.getElem?_take_of_lt hj,List.getElem?_drop,← h5 j hj];simp [Nat.add_assoc]
         · rw [Zr (by simp;omega),Zr (by omega)]
        exact ⟨y,h2,by rw [this];exact h3⟩
       have hb:a.block < W.heap.size:=by
        obtain ⟨h5,_⟩:=Array.getElem?_eq_some_iff.1 hheap;exact h5
       have hall:∀ k,k≤m→∃ ys:List α,ys.length=k∧(∀ y∈ys,oa y)∧∀ (S:Nat→Prop) (τ:Tok→Blk),(∀ b,b < W.heap.size→S b)→∀ i y,ys[i]?=some y→zD W S τ (Enc.enc y) ((arr.toList.drop (a.off + i * (Enc.shp α).size)).take (Enc.shp α).size):=by
        intro k
        induction k with
        | zero=>intro _;exact ⟨[],rfl,by simp,by simp⟩
        | succ k ih=>
          intro hk
          obtain ⟨ys,h1,h2,h3⟩:=ih (by omega)
          obtain ⟨y,h4,h5⟩:=hch k (by omega)
          refine ⟨ys++[y],by simp [h1],?_,?_⟩
          · intro z hz;rcases zG.1 hz with hz | hz
            · exact h2 z hz
            · simp at hz;subst hz;exact h4
          · intro S τ hS i z hz
            by_cases hi:i < k
            · rw [List.getElem?_append_left (by omega)] at hz;exact h3 S τ hS i z hz
            · rw [List.getElem?_append_right (by omega)] at hz
              have:i=k:=by
               have:=(List.getElem?_eq_some_iff.1 hz).1;simp at this;omega
              subst this
              simp [h1] at hz;subst hz;exact h5 S τ hS
       obtain ⟨ys,h1,h2,h3⟩:=hall len hl
       refine ⟨ys,⟨by omega,h2⟩,fun S τ hS=>?_⟩
       have hh:=h3 S τ hS
       simp only [Enc.enc,zD,List.length_map,h1]
       refine ⟨some a,m,rfl,hl,?_,fun _=>vf _,.inr ⟨a.block,a.off,arr,ty,fz,?_,hheap,hS _ hb,hsize,?_⟩⟩
       · intro v hv;obtain ⟨y,_,rfl⟩:=xY.1 hv;exact Enc.shape_enc y
       · cases a;simp_all
       · have hmul:len * (Enc.shp α).size≤m * (Enc.shp α).size:=Nat.mul_le_mul_right _ hl
         refine Kr ys _ ?_ ?_
         · simp [h1];omega
         · intro i y hy
           have hi:i < len:=by have:=(List.getElem?_eq_some_iff.1 hy).1;omega
           have h7:=hh i y hy
           have hmi:(i + 1) * (Enc.shp α).size≤len * (Enc.shp α).size:=Nat.mul_le_mul_right _ hi
           rw [Nat.succ_mul] at hmi
           rw [List.drop_take,List.take_take,List.drop_drop,Nat.min_eq_left (by omega)]
           exact h7
   · cases hz
end Go.Zq
namespace Go.Zq
open Go.RowKit Go.ChangeShapes Go.WideShapes Go.ChangeAt Go.Deep
section
variable {H:Type} {en:TypeId×Value→H} {P:Program} {W W':World}
theorem J0 (hl:laidOutB P=true) (hb:Below W.heap.size W W'):∀ (ts:List TypeId) (vs:List Value) (ds:List (DataW H)) (p:List MemPlace),(∀ t∈ts,P.readableRec t=true∧t < P.types.size) →
    DataW.TrodAll en P W 0 (fun _=>true) true ts vs ds p→DataW.TrodAll en P W' 0 (fun b=>decide (b < W.heap.size)) true ts vs ds p
 | [],[],[],p,_,h=>h
 | t :: ts,v :: vs,d :: ds,p,hts,h=>by
   obtain ⟨p1,q,h1,h2,rfl⟩:=h
   have ht:=hts t (by simp)
   refine ⟨p1,q,Below.trod hl ht.1 ht.2 h1 hb ?_,J0 hl hb ts vs ds q (fun t ht=>hts t (by simp [ht])) h2,rfl⟩
   obtain ⟨m,hm⟩:=h1
   exact DataW.trod_lt m _ _ _ hm
 | [],_ :: _,_,_,_,h=>h.elim
 | [],[],_ :: _,_,_,h=>h.elim
 | _ :: _,[],_,_,_,h=>h.elim
 | _ :: _,_ :: _,[],_,_,h=>h.elim
theorem LN:∀ (ts:List TypeId) (vs:List Value) (ds:List (DataW H)) (p:List MemPlace) (base:Nat) (sp:Nat→Bool) (hd:Bool),DataW.TrodAll en P W base sp hd ts vs ds p→ds.length=ts.length
 | [],[],[],p,_,_,_,h=>rfl
 | t :: ts,v :: vs,d :: ds,p,_,_,_,h=>by
   obtain ⟨p1,q,h1,h2,rfl⟩:=h
   simp [LN ts vs ds q _ _ _ h2]
 | [],_ :: _,_,_,_,_,_,h=>h.elim
 | [],[],_ :: _,_,_,_,_,h=>h.elim
 | _ :: _,[],_,_,_,_,_,h=>h.elim
 | _ :: _,_ :: _,[],_,_,_,_,h=>h.elim
def L1 (P:Program) (W:World) (us:List V) (vs:List Value):Prop:=V.tokss us=[]∧∀ (S:Nat→Prop) (τ:Tok→Blk),(∀ b,b < W.heap.size→S b)→z8 W S τ us vs
theorem zg4:L1 P W [] []:=⟨rfl,fun _ _ _=>by simp [z8]⟩
theorem zgf {α:Type} [Enc α] {a:α} {v:Value} {us:List V} {vs:List Value} (h:∀ (S:Nat→Prop) (τ:Tok→Blk),(∀ b,b < W.heap.size→S b)→zC W S τ (Enc.enc a) v) (hs:L1 P W us vs):L1 P W (Enc.enc a :: us) (v :: vs):=
 ⟨by simp [V.tokss,Enc.toks_enc,hs.1],fun S τ hS=>by simp only [z8];exact ⟨v,vs,rfl,h S τ hS,hs.2 S τ hS⟩⟩
def zlp:Option TypeDesc→Bool
 | some (.slice _) | some (.int _) | some .bool=>true
 | _=>false
theorem zjv {α:Type} [Enc α] {ok:α→Prop} {t:TypeId} {v:Value} {d:DataW H} {p:List MemPlace} {base:Nat} (ho:zcq P t α ok) (hn:∀ a:α,(Enc.enc a).isAgg=false) (hu:zlp (P.underlying t)=true)
    (hv:Value.okWide P W .any base t v) (hd:DataW.Trod en P W 0 (fun _=>true) true t v d p):∃ a:α,ok a∧∀ (S:Nat→Prop) (τ:Tok→Blk),(∀ b,b < W.heap.size→S b)→zC W S τ (Enc.enc a) v:=by
 obtain ⟨m,hm⟩:=hd
 obtain ⟨a,ha,hr⟩:=ho.2 en W m _ _ hm
 refine ⟨a,ha,fun S τ hS=>?_⟩
 have h1:=hr S τ hS
 have hc:v.cells.toList=[v]:=by
  unfold zlp at hu
  split at hu
  · rename_i e he;obtain ⟨_,_,_,rfl⟩:=okWide_slice he hv;rfl
  · rename_i e he;obtain ⟨_,rfl⟩:=okWide_int he hv;rfl
  · rename_i he;obtain ⟨_,rfl⟩:=okWide_bool he hv;rfl
  · cases hu
 rw [hc] at h1
 have h2:=hn a
 generalize Enc.enc a=u at h1 h2
 cases u <;> first | (simp only [zD] at h1;exact h1.elim) | (simp only [zC];exact h1) | (simp [V.isAgg] at h2;done) | (simp only [zD] at h1;simp only [zC];simpa using h1) | trivial
theorem zgL {C:Checked} {os:Os} {s:ChangeSpec} {f:FuncId} {fn:Func} {conds:List PathCond} {tb:TypeId} (own:ownKnob C.prog.godebug=none) (started:os.Started) (noInit:C.prog.inits.idxOf? f=none) (hfn:C.prog.funcs[f]?=some fn)
    (witness:∃ (w:World) (tape:Tape) (i:Input),w.os=os∧(w.forCall tape i).Shaped C.prog∧i.vars=[]∧Input.okWide C.prog (w.forCall tape i) .any w.heap.size f i ∧
      s.pre6 en C.prog fn conds false (w.forCall tape i).memory i.args∧({}:Assume).holds C.prog (lone (Frame.enter C.prog f i.args .normal) [] (w.forCall tape i)))
    (hvars:s.vars=[]) (hspec:∀ ds:List (DataW H),ds.length=fn.params.size→(s.fn H ds).results=[.lit (.bool true)]∧(s.fn H ds).args=ds∧(s.fn H ds).vars=[])
    (hres:fn.resultTypes=#[tb]) (hb:C.prog.underlying tb=some .bool) (hl:laidOutB C.prog=true) (hts:fn.params.toList.all (fun t=>C.prog.readableRec t && decide (t < C.prog.types.size))=true)
    (hrun:∀ (W:World) (args:Array Value) (ds:List (DataW H)) (p:List MemPlace) (base:Nat),(∀ (j:Nat) t v,fn.params[j]?=some t→args[j]?=some v→Value.okWide C.prog W .any base t v) →
      DataW.TrodAll en C.prog W 0 (fun _=>true) true fn.params.toList args.toList ds p→∃ us,L1 C.prog W us args.toList∧YK C.prog f 0 false us (.bool true)) :
    ReturnsInHanded {} C os f .any (s.pre6 en C.prog fn conds false) (s.post en C.prog fn false true false false):=by
 refine returnsInHanded_of_change_sized (C:=C) own started noInit hfn witness ?_
 intro W base args ds gs before hval hW hcnd hsz _
 have hW':=hW
 obtain ⟨p,q,hA,hV,rfl,hfz,hnd⟩:=hW
 rw [hvars] at hV
 obtain ⟨rfl,rfl⟩:=trodVars_none hV
 obtain ⟨us,hus,hcon⟩:=hrun W args ds p base hval hA
 refine (hcon 0 W (fun b=>b < W.heap.size) (fun _=>⟨0,0,.s⟩) args (fun b hb=>hb) (hus.2 _ _ fun b hb=>hb) hus.1).mono fun e W' he=>?_
 obtain ⟨v,τ',rfl,bel,_,_,hrel⟩:=he
 simp only [V.tag,zC] at hrel
 subst hrel
 have hs:=hspec ds (by have:=LN _ _ _ _ _ _ _ hA;simpa using this)
 have hds:ds++[]=ds:=xj ds
 refine ⟨.bool true,rfl,ds,[],_,[],p,[],hW',?_,?_,?_,bel.frame _,fun h=>by cases h⟩
 · rw [hds,hs.1,hres]
   exact ⟨[],[],⟨1,by simp [DataW.trod,hb,Value.cells]⟩,rfl,rfl⟩
 · rw [hds,hs.2.1]
   refine J0 hl bel _ _ _ _ ?_ hA
   intro t ht
   have:=yE.1 hts t ht
   simpa using this
 · rw [hds,hs.2.2,hvars];rfl
end
end Go.Zq
namespace Go.Zq
section
variable {K:List Tok}
theorem yP {α:Type} [Enc α] {r:Nat} {p:List Nat} {xs:List α}:(zm (.at r p) (.of xs)).toks=[.at r p]:=by
 simp only [zm,V.toks,vf]
 split <;> rfl
theorem WK {α:Type} [Enc α] {r:Nat} {p:List Nat} {xs:List α}:V.frz [.at r p] (zm (.at r p) (.of xs))=Enc.enc xs:=by
 simp [zm,V.frz,vf,Yp,Enc.enc]
theorem JN {vs us:List V} (h:V.frzs K vs=us):V.frz K (.agg vs) = .agg us:=by simp only [V.frz,h]
theorem vB {v u:V} {vs us:List V} (h:V.frz K v=u) (hs:V.frzs K vs=us):V.frzs K (v :: vs)=u :: us:=by simp only [V.frzs,h,hs]
theorem vm {t:Tok} {i:Nat} {q:List Nat} {c u:V} (hn:K.contains t=false) (h:V.frz K c=u) (hs:(t == .sh)=false):V.frz K (.ref t i q c) = .ref t i q u:=by
 cases t with
 | sh=>simp at hs
 | _=>simp only [V.frz,hn,h];simp
end
section
variable {D:Den} {σ:Sig} {s:Nat→V} {K:(Nat→V)→Prop} {is:List I}
theorem zav {d:Nat} {z:V} {len:Nat} {ps:List (Nat×Nat×O)} (L:List (Nat×V)) (vs:List V) (hs:zu L s) (h:xz (Li L) ps (List.replicate len z)=some vs)
    (hr:((ps.flatMap fun p=>p.2.2.rds).all fun k=>L.any fun x=>x.1 == k)=true) (hg:s d = .gone)
    (H:goK D σ is (upd s d (.lin (.sl (.at d []) z.shape 0 vs))) K):goK D σ (⟨some d,none,true,.lit z len ps⟩ :: is) s K:=by
 have h1:xz s ps (List.replicate len z)=some vs:=by
  rw [w7 (s2:=Li L) fun k hk=>KM L s hs k (yE.1 hr k hk)];exact h
 simp only [goK,xK,yI,h1,hg]
 simp only [if_true]
 exact H
theorem Uz {α:Type} [Enc α] {d r:Nat} {p:List Nat} {l:Bool} {g:Sh} {xs ys zs:List α} {y:O} {t2:Tok} {lo2:Nat} (hx:s r = .lin (zm (.at r p) (.of xs))) (hy:y.ev s = .sl t2 (Enc.shp α) lo2 (ys.map Enc.enc))
    (hgg:g=Enc.shp α) (hg:s d = .gone) (hd:(d == r)=false) (ha:vL xs ys=some zs)
    (H:goK D σ is (upd (upd s r .dead) d (if l then .lin (zm (.at d []) (.of zs)) else zm (.at d []) (.of zs))) K):goK D σ (⟨some d,none,l,.appS g (.t r) y⟩ :: is) s K:=by
 subst hgg
 unfold vL at ha
 split at ha
 · rename_i hlen
   simp only [zg] at ha;subst ha
   have hsp:XM s (.t r)=some (upd s r .dead,.sl (.at r p) (Enc.shp α) 0 (xs.map Enc.enc)):=by
    simp only [XM];rw [hx];simp only [zm,vf,List.isEmpty_nil,Bool.and_true,decide_true,if_true]
   have hgd:upd s r .dead d = .gone:=by
    rw [zL _ _ (by simpa using hd)];exact hg
   simp only [goK,xK,yI,hsp,zx hy rfl,hgd,Sh.beq_refl,vf,List.isEmpty_nil,Bool.or_true,yk]
   rw [if_pos (by simpa using hlen)]
   have e:JU d (.at r p) (Enc.shp α) (xs.map Enc.enc) (ys.map Enc.enc)=zm (.at d []) (.of (xs++ys)):=by
    simp [JU,zm]
   rw [e]
   cases l with
   | true=>simpa using H
   | false=>simpa using H
 · cases ha
theorem yG {α:Type} [Enc α] {t:Tok} {o:NL α}:(zm t o).ok=true:=by cases o <;> rfl
theorem xQ {x:O} {v:V} (h:x.ev s=v) (hk:v.ok=true):yi s (.mov x)=some v:=by simp only [yi,zx h hk]
theorem Wx {α:Type} [Enc α] {t:Tok} {o:NL α}:(zm t o).shape.beq .p=true:=by cases o <;> rfl
theorem ut {x:O} {t:Tok} {i:Nat} {q:List Nat} {c:V} {g:Sh} (h:x.ev s = .ref t i q c) (hc:c.shape.beq g=true):yi s (.load g x)=some c:=by simp only [yi,zx h rfl,hc,if_true]
end
class Arg (α:Type) where
 arg:α→V
 un:V→Option α
 un_arg:∀ x,un (arg x)=some x
 arg_un:∀ v x,un v=some x→arg x=v
instance {α:Type} [Enc α]:Arg α:=⟨Enc.enc,Enc.dec,Enc.dec_enc,Enc.enc_dec⟩
structure Rf (α:Type) where
 v:α
instance {α:Type} [Arg α]:Arg (Rf α) where
 arg x:=.ref .sh 0 [] (Arg.arg x.v)
 un
  | .ref .sh 0 [] u=>(Arg.un u).map Rf.mk
  | _=>none
 un_arg x:=by simp [Arg.un_arg]
 arg_un v x h:=by
  split at h
  · simp only [zU] at h
    obtain ⟨y,h1,rfl⟩:=h
    simp [Arg.arg_un _ _ h1]
  · cases h
class YX (α:Type) where
 args:α→List V
 uns:List V→Option α
 uns_args:∀ x,uns (args x)=some x
 args_uns:∀ v x,uns v=some x→args x=v
instance:YX Unit where
 args _:=[]
 uns
  | []=>some ()
  | _=>none
 uns_args _:=rfl
 args_uns v x h:=by cases v <;> simp_all
instance {α β:Type} [Arg α] [YX β]:YX (α×β) where
 args x:=Arg.arg x.1 :: YX.args x.2
 uns
  | v :: vs=>(Arg.un v).bind fun x=>(YX.uns vs).map fun y=>(x,y)
  | []=>none
 uns_args x:=by simp [Arg.un_arg,YX.uns_args]
 args_uns v x h:=by
  split at h
  · simp only [Option.bind_eq_some_iff,zU] at h
    obtain ⟨y,h1,z,h2,rfl⟩:=h
    simp [Arg.arg_un _ _ h1,YX.args_uns _ _ h2]
  · cases h
structure Cl (g:Nat) (α β:Type) where
 fs:α
 env:β
instance {g:Nat} {α β:Type} [YX α] [YX β]:Arg (Cl g α β) where
 arg x:=.fn g (YX.args x.fs) (YX.args x.env)
 un
  | .fn g' us vs=>if g'=g then (YX.uns us).bind fun x=>(YX.uns vs).map fun y=>⟨x,y⟩ else none
  | _=>none
 un_arg x:=by simp [YX.uns_args]
 arg_un v x h:=by
  split at h
  · split at h
    · rename_i e
      simp only [Option.bind_eq_some_iff,zU] at h
      obtain ⟨y,h1,z,h2,rfl⟩:=h
      simp [YX.args_uns _ _ h1,YX.args_uns _ _ h2,e]
    · cases h
  · cases h
def da {α γ:Type} [YX α] (f:α→Option γ) (t:γ→V) (args:List V):Option V:=(YX.uns args).bind fun x=>(f x).map t
theorem zjg {α γ:Type} [YX α] {f:α→Option γ} {t:γ→V} (x:α) {r:γ} (h:f x=some r):da f t (YX.args x)=some (t r):=by simp [da,YX.uns_args,h]
theorem Kw {α γ:Type} [YX α] {f:α→Option γ} {t:γ→V} {args:List V} {r:V} (h:da f t args=some r):∃ x y,args=YX.args x∧f x=some y∧r=t y:=by
 simp only [da,Option.bind_eq_some_iff,zU] at h
 obtain ⟨x,h1,y,h2,rfl⟩:=h
 exact ⟨x,y,(YX.args_uns _ _ h1).symm,h2,rfl⟩
def zo6:List (Nat×Nat)→List V→Bool
 | [],_=>true
 | (i,g) :: L,args=>(match args[i]? with
   | some (.fn g' _ _)=>g' == g
   | _=>false) && zo6 L args
section
variable {D:Den} {σ:Sig} {s:Nat→V} {K:(Nat→V)→Prop} {is:List I}
theorem LY {d g m:Nat} {al:Bool} {x:O} {fs env us ws:List V} {as:List O} {r:V} (hx:x.ev s = .fn g fs env) (hfs:V.erases fs=us) (henv:V.erases env=ws) (h1:env.all V.one=true)
    (vs:List V) (hv:xg as s=some (vs,s)) (hD:D g (us++vs++ws)=some r) (hσ:σ g=some (m,al)) (hal:(al && !((xn s as).isEmpty && (V.fn g fs env).toks.isEmpty))=false)
    (hr:r.toks=[]) (ht:(V.tag d [] m r).toks=[]) (hok:(V.tag d [] m r).ok=true) (H:goK D σ is (upd s d (V.tag d [] m r)) K) (hmp:Nat.ble zN m=false:=by rfl) (hgm:Nat.ble Zt g=false:=by rfl):goK D σ (⟨some d,none,false,.call x as⟩ :: is) s K:=by
 subst hfs;subst henv
 have hal':¬ ((al && !((xn s as).isEmpty && (V.fn g fs env).toks.isEmpty))=true):=by rw [hal];simp
 simp only [goK,xK,yI,JY,zx hx rfl,hv,key,zk,hD,hσ,hgm,ya,if_false]
 rw [if_neg hal']
 simp only [hr,hmp,vg,h1,List.isEmpty_nil,wK,if_true,yd,place,ht,hok,put]
 exact H
theorem Jg {g:Nat} {fs env us vs:List V} (h:V.erases fs=us) (h2:V.erases env=vs):(V.fn g fs env).erase = .fn g us vs:=by simp only [V.erase,h,h2]
theorem uS {t:Tok} {i:Nat} {q:List Nat} {c u:V} (h:c.erase=u):(V.ref t i q c).erase = .ref .sh 0 [] u:=by simp only [V.erase,h]
theorem zga {vs us:List V} (h:V.erases vs=us):(V.agg vs).erase = .agg us:=by simp only [V.erase,h]
theorem xx:V.erases []=[]:=rfl
theorem xD {v u:V} {vs us:List V} (h:v.erase=u) (hs:V.erases vs=us):V.erases (v :: vs)=u :: us:=by simp only [V.erases,h,hs]
theorem Ji {f:Tok→Option Tok} {g:Nat} {fs env us vs:List V} (h:V.maps f fs=us) (h2:V.maps f env=vs):V.map f (.fn g fs env) = .fn g us vs:=by simp only [V.map,h,h2]
theorem zaa {t:Tok} {i:Nat} {q:List Nat} {u:V} {g:Nat} {fs env us vs:List V} (h:V.muts t i q u fs=us) (h2:V.muts t i q u env=vs):V.mut t i q u (.fn g fs env) = .fn g us vs:=by simp only [V.mut,h,h2]
theorem wP {v r:V} (h:zdb v r) (hm:v.mine=true):fin 0 false v=some r:=by
 simp only [fin,h.own,List.map_nil,List.all_nil,hm,Bool.or_true,Bool.and_true,h.ret]
 simp
theorem xI {α:Type} [Enc α] {r:Nat} {p:List Nat} {o:NL α} (hf:(Enc.shp α).flat=true):(zm (.at r p) o).mine=true:=by
 cases o <;> simp [zm,V.mine,hf]
theorem MC {h:Sh}:(V.sl .nl h 0 []).mine=true:=by simp [V.mine,V.mines]
theorem XG {vs:List V} (h:V.mines vs=true):(V.agg vs).mine=true:=by simp only [V.mine,h]
theorem Xv {vs:List V} (h:V.mines vs=true):(V.tup vs).mine=true:=by simp only [V.mine,h]
theorem wI:V.mines []=true:=rfl
theorem yz {v:V} {vs:List V} (h:v.mine=true) (hs:V.mines vs=true):V.mines (v :: vs)=true:=by simp only [V.mines,h,hs,wK]
end
open Go.RowKit Go.ChangeShapes Go.Deep
end Go.Zq
