/- The pure machine (part 3). No further condition. -/
import Derived.Test.YtelahampjnaimaeK2
import Derived.Orders
import Derived.Tactics
import Derived.LoopN
import Derived.Deep.Slices
import Derived.Deep.Strs
import Derived.WalkKit
import Derived.ProofKit
import Derived.OpenShut
import Derived.ShutString
import Derived.ChangeOld
import Derived.Below
import Derived.SizedLaws
import Derived.Carry
set_option linter.unusedVariables false
set_option linter.unusedSimpArgs false
namespace Go.Zq
def X.rds:X→List Nat
 | .v a=>a.rds
 | .vN a bs=>a.rds++bs
 | .alloc _=>[]
 | .box x=>x.rds
 | .mk n _ _=>n.rds
 | .lit _ _ ps=>ps.flatMap fun p=>p.2.2.rds
 | .app _ x y | .appS _ x y=>x.rds++y.rds
 | .store _ x y | .copy x y=>x.rds++y.rds
 | .call f as=>f.rds++as.flatMap O.rds
 | .mark f as=>f.rds++as.flatMap O.rds
 | .callO f as=>f.rds++as.flatMap O.rds
 | .callG f _ as=>f.rds++as.flatMap O.rds
 | .callT f as bs es=>f.rds++as.flatMap O.rds++bs++es
 | .callTN f as bs _=>f.rds++as.flatMap O.rds++bs
 | .storeK _ x y=>x.rds++y.rds
 | .litS _ _ ps=>ps.flatMap fun p=>p.2.2.rds
def X.loc:X→Bool
 | .app .. | .store .. | .mark .. | .callG .. | .copy .. | .callT .. | .callTN .. | .storeK ..=>false
 | _=>true
def X.wrs:X→List Nat
 | .appS _ x _=>x.rds
 | .call _ as=>as.flatMap O.rds
 | .callO _ as=>as.flatMap O.rds
 | _=>[]
def I.rds (i:I):List Nat:=i.d.toList++(i.g.map (·.1)).toList++i.x.rds
def I.wrs (i:I):List Nat:=i.d.toList++i.x.wrs
theorem Lr {s1 s2:Nat→V} {x:O} (h:∀ t∈x.rds,s1 t=s2 t):x.ev s1=x.ev s2:=by
 cases x with
 | t n=>exact h n (by simp [O.rds])
 | k v=>rfl
theorem y9 {s1 s2:Nat→V} {x:O} (h:∀ t∈x.rds,s1 t=s2 t):x.rd s1=x.rd s2:=by
 unfold O.rd;rw [Lr h]
theorem ziw {s1 s2:Nat→V} {x:O} (h:∀ t∈x.rds,s1 t=s2 t):x.pk s1=x.pk s2:=by
 unfold O.pk;rw [Lr h]
theorem Xb {s1 s2:Nat→V}:∀ {xs:List O},(∀ t∈xs.flatMap O.rds,s1 t=s2 t)→Z0 s1 xs=Z0 s2 xs
 | [],_=>rfl
 | x :: xs,h=>by
   simp only [Z0]
   rw [y9 (x:=x) fun t ht=>h t (by simp [ht]),Xb (xs:=xs) fun t ht=>h t (by simp at ht ⊢;exact .inr ht)]
theorem K4 {s1 s2:Nat→V} {d:Nat} {x:Option O} (h:∀ t∈(x.map O.rds).getD [],s1 t=s2 t):YY s1 d x=YY s2 d x:=by
 cases x with
 | none=>rfl
 | some x=>simp only [YY];rw [y9 (x:=x) fun t ht=>h t (by simpa using ht)]
theorem vy {s1 s2:Nat→V}:∀ {ps:List (Nat×Nat×O)} {vs:List V},(∀ t∈ps.flatMap (fun p=>p.2.2.rds),s1 t=s2 t)→xX s1 ps vs=xX s2 ps vs
 | [],_,_=>rfl
 | (f,off,x) :: ps,vs,h=>by
   simp only [xX]
   rw [y9 (x:=x) fun t ht=>h t (by simp [ht])]
   have ih:∀ vs,xX s1 ps vs=xX s2 ps vs:=fun vs=>vy (ps:=ps) fun t ht=>h t (by simp at ht ⊢;exact .inr ht)
   simp only [ih]
theorem uR {s1 s2:Nat→V} {a:A} (h:∀ t∈a.rds,s1 t=s2 t):yy s1 a=yy s2 a:=by
 cases a with
 | mov x=>exact y9 h
 | pick c x y=>
   simp only [yy]
   rw [y9 (x:=c) fun t ht=>h t (by simp [A.rds,ht]),y9 (x:=x) fun t ht=>h t (by simp [A.rds,ht]),y9 (x:=y) fun t ht=>h t (by simp [A.rds,ht])]
 | load g x=>simp only [yy];rw [y9 (x:=x) h]
 | nilc x=>simp only [yy];rw [y9 (x:=x) h]
 | un op x=>simp only [yy];rw [y9 (x:=x) h]
 | conv k x=>simp only [yy];rw [y9 (x:=x) h]
 | fld x f o=>simp only [yy];rw [y9 (x:=x) h]
 | field x f o g=>simp only [yy];rw [y9 (x:=x) h]
 | ext x i=>simp only [yy];rw [y9 (x:=x) h]
 | extS x i=>simp only [yy];rw [y9 (x:=x) h]
 | sliceA x n g=>simp only [yy];rw [y9 (x:=x) h]
 | len x=>simp only [yy];rw [ziw (x:=x) h]
 | bin op x y=>simp only [yy];rw [y9 (x:=x) fun t ht=>h t (by simp [A.rds,ht]),y9 (x:=y) fun t ht=>h t (by simp [A.rds,ht])]
 | beq ne x y=>simp only [yy];rw [y9 (x:=x) fun t ht=>h t (by simp [A.rds,ht]),y9 (x:=y) fun t ht=>h t (by simp [A.rds,ht])]
 | eqP ne x y=>simp only [yy];rw [y9 (x:=x) fun t ht=>h t (by simp [A.rds,ht]),y9 (x:=y) fun t ht=>h t (by simp [A.rds,ht])]
 | idx x y e=>simp only [yy];rw [y9 (x:=x) fun t ht=>h t (by simp [A.rds,ht]),y9 (x:=y) fun t ht=>h t (by simp [A.rds,ht])]
 | idxA x y n e=>simp only [yy];rw [y9 (x:=x) fun t ht=>h t (by simp [A.rds,ht]),y9 (x:=y) fun t ht=>h t (by simp [A.rds,ht])]
 | index x y n g=>simp only [yy];rw [y9 (x:=x) fun t ht=>h t (by simp [A.rds,ht]),y9 (x:=y) fun t ht=>h t (by simp [A.rds,ht])]
 | fn f fs cs=>simp only [yy];rw [Xb (xs:=fs) fun t ht=>h t (by simp only [A.rds,zO];exact .inl ht),Xb (xs:=cs) fun t ht=>h t (by simp only [A.rds,zO];exact .inr ht)]
 | slice x lo hi e=>
   simp only [yy]
   have e1:∀ d,YY s1 d lo=YY s2 d lo:=fun d=>K4 fun t ht=>h t (by simp only [A.rds,zO];exact .inl (.inr ht))
   have e2:∀ d,YY s1 d hi=YY s2 d hi:=fun d=>K4 fun t ht=>h t (by simp only [A.rds,zO];exact .inr ht)
   rw [y9 (x:=x) fun t ht=>h t (by simp [A.rds,ht])]
   simp only [e1,e2]
 | mx xs=>simp only [yy];rw [Xb (xs:=xs) h]
 | mn xs=>simp only [yy];rw [Xb (xs:=xs) h]
 | bld z ps=>
   simp only [yy]
   have e1:∀ vs,xX s1 ps vs=xX s2 ps vs:=fun vs=>vy h
   simp only [e1]
def NJ (W:List Nat) (s1 s2:Nat→V):Option (Nat→V)→Option (Nat→V)→Prop
 | some a,some b=>(∀ t∈W,a t=b t)∧∀ t,t∉W→a t=s1 t∧b t=s2 t
 | none,none=>True
 | _,_=>False
theorem YF {s1 s2:Nat→V} {d:Nat} {W:List Nat} (hd:d∈W) (h:∀ t∈W,t=d∨s1 t=s2 t) (v:V):NJ W s1 s2 (some (upd s1 d v)) (some (upd s2 d v)):=by
 refine ⟨fun t ht=>?_,fun t ht=>?_⟩
 · by_cases e:t=d
   · subst e;simp
   · rw [zX _ _ e,zX _ _ e];exact (h t ht).resolve_left e
 · have:t≠d:=by rintro rfl;exact ht hd
   rw [zX _ _ this,zX _ _ this];exact ⟨rfl,rfl⟩
theorem NU {s1 s2:Nat→V}:∀ {xs:List O},(∀ t∈xs.flatMap O.rds,s1 t=s2 t) →
    match xO xs s1,xO xs s2 with
    | some (v1,a),some (v2,b)=>v1=v2∧(∀ t∈xs.flatMap O.rds,a t=b t)∧∀ t,t∉xs.flatMap O.rds→a t=s1 t∧b t=s2 t
    | none,none=>True
    | _,_=>False:=by
 intro xs
 induction xs generalizing s1 s2 with
 | nil=>intro h;simp [xO]
 | cons x xs ih=>
   intro h
   have e:=Lr (x:=x) (s1:=s1) (s2:=s2) fun t ht=>h t (by simp [ht])
   have hx:∀ t∈xs.flatMap O.rds,s1 t=s2 t:=fun t ht=>h t (by simp at ht ⊢;exact .inr ht)
   have stay:∀ v:V,match (xO xs s1).map (fun p=>(v.erase :: p.1,p.2)),(xO xs s2).map (fun p=>(v.erase :: p.1,p.2)) with
       | some (v1,a),some (v2,b)=>v1=v2∧(∀ t∈(x :: xs).flatMap O.rds,a t=b t)∧∀ t,t∉(x :: xs).flatMap O.rds→a t=s1 t∧b t=s2 t
       | none,none=>True
       | _,_=>False:=by
    intro v
    have:=ih hx
    cases h1:xO xs s1 <;> cases h2:xO xs s2 <;> simp only [h1,h2] at this
    · trivial
    · rename_i p q
      obtain ⟨p1,p2⟩:=p
      obtain ⟨q1,q2⟩:=q
      obtain ⟨h0,h3,h4⟩:=this
      dsimp only at h0 h3 h4
      subst h0
      simp only [yU]
      refine ⟨trivial,fun t ht=>?_,fun t ht=>?_⟩
      · by_cases hm:t∈xs.flatMap O.rds
        · exact h3 t hm
        · rw [(h4 t hm).1,(h4 t hm).2];exact h t ht
      · exact h4 t (by simp at ht ⊢;exact ht.2)
   simp only [xO]
   rw [← e]
   cases hv:x.ev s1 with
   | gone=>trivial
   | lin v=>
     cases x with
     | k u=>trivial
     | t r=>
       simp only
       have hu:∀ t∈xs.flatMap O.rds,upd s1 r .dead t=upd s2 r .dead t:=by
        intro t ht
        by_cases e:t=r
        · subst e;simp
        · rw [zX _ _ e,zX _ _ e];exact hx t ht
       have:=ih hu
       cases h1:xO xs (upd s1 r .dead) <;> cases h2:xO xs (upd s2 r .dead) <;> simp only [h1,h2] at this
       · trivial
       · rename_i p q
         obtain ⟨p1,p2⟩:=p
         obtain ⟨q1,q2⟩:=q
         obtain ⟨h0,h3,h4⟩:=this
         dsimp only at h0 h3 h4
         subst h0
         simp only [yU]
         refine ⟨trivial,fun t ht=>?_,fun t ht=>?_⟩
         · by_cases hm:t∈xs.flatMap O.rds
           · exact h3 t hm
           · rw [(h4 t hm).1,(h4 t hm).2]
             by_cases e:t=r
             · subst e;simp
             · rw [zX _ _ e,zX _ _ e];exact h t ht
         · have h5:=h4 t (by simp at ht ⊢;exact ht.2)
           have:t≠r:=by rintro rfl;simp [O.rds] at ht
           rw [zX _ _ this,zX _ _ this] at h5
           exact h5
   | _=>exact stay _
theorem JR {s1 s2:Nat→V}:∀ {xs:List O},(∀ t∈xs.flatMap O.rds,s1 t=s2 t)→xQ s1 xs=xQ s2 xs
 | [],_=>rfl
 | x :: xs,h=>by
   simp only [xQ]
   rw [Lr (x:=x) fun t ht=>h t (by simp [ht]),JR (xs:=xs) fun t ht=>h t (by simp at ht ⊢;exact .inr ht)]
theorem zc2 {s1 s2:Nat→V} {d:Option Nat} {l:Bool} {v:V} (h:∀ t∈d.toList,s1 t=s2 t):NJ d.toList s1 s2 (place s1 d l v) (place s2 d l v):=by
 unfold place
 cases d with
 | none=>
   split
   · split
     · exact ⟨fun t ht=>absurd ht (by simp),fun t _=>⟨rfl,rfl⟩⟩
     · trivial
   · trivial
 | some d=>
   have hd:s1 d=s2 d:=h d (by simp)
   split
   · split
     · exact YF (by simp) (fun t ht=>.inl (by simpa using ht)) v
     · trivial
   · simp only
     rw [← hd]
     split
     · split
       · exact YF (by simp) (fun t ht=>.inl (by simpa using ht)) _
       · trivial
     · trivial
theorem NJ.widen {W W':List Nat} {s1 s2:Nat→V} {a b:Option (Nat→V)} (h:NJ W s1 s2 a b) (hw:∀ t∈W,t∈W') (he:∀ t∈W',s1 t=s2 t):NJ W' s1 s2 a b:=by
 cases a <;> cases b <;> simp only [NJ] at h ⊢
 · refine ⟨fun t ht=>?_,fun t ht=>h.2 t (fun hm=>ht (hw t hm))⟩
   rename_i a b
   by_cases hm:t∈W
   · exact h.1 t hm
   · rw [(h.2 t hm).1,(h.2 t hm).2];exact he t ht
theorem Nr {D:Den} {σ:Sig} {s1 s2:Nat→V} {d:Option Nat} {l ob:Bool} {f:O} {as:List O} (hdl:∀ t∈d.toList,s1 t=s2 t) (hxr:∀ t∈f.rds++as.flatMap O.rds,s1 t=s2 t) :
    NJ (d.toList++as.flatMap O.rds) s1 s2 (KF D σ s1 d l ob f as) (KF D σ s2 d l ob f as):=by
 simp only [KF]
 rw [y9 (x:=f) fun t ht=>hxr t (by simp [ht])]
 have has:∀ t∈as.flatMap O.rds,s1 t=s2 t:=fun t ht=>hxr t (by simp only [zO];exact .inr ht)
 have hta:=NU (xs:=as) has
 rw [JR (xs:=as) has]
 cases f.rd s2 with
 | none=>trivial
 | some fv=>
   cases fv with
   | fn g fs env=>
     simp only
     cases h1:xO as s1 <;> cases h2:xO as s2 <;> simp only [h1,h2] at hta
     · trivial
     · rename_i p q
       obtain ⟨p1,p2⟩:=p
       obtain ⟨q1,q2⟩:=q
       obtain ⟨h0,h3,h4⟩:=hta
       dsimp only at h0 h3 h4
       subst h0
       simp only
       split
       · rename_i r m al hD hσ
         split
         · trivial
         split
         · trivial
         · split
           · have hp:∀ t∈d.toList,p2 t=q2 t:=by
              intro t ht
              by_cases hm:t∈as.flatMap O.rds
              · exact h3 t hm
              · rw [(h4 t hm).1,(h4 t hm).2];exact hdl t ht
             have hpl:=zc2 (l:=l) (v:=V.tag (d.getD 0) [] m r) hp
             cases hpa:place p2 d l (V.tag (d.getD 0) [] m r) <;> cases hpb:place q2 d l (V.tag (d.getD 0) [] m r) <;> simp only [hpa,hpb,NJ] at hpl ⊢
             rename_i a b
             refine ⟨fun t ht=>?_,fun t ht=>?_⟩
             · by_cases hm:t∈d.toList
               · exact hpl.1 t hm
               · rw [(hpl.2 t hm).1,(hpl.2 t hm).2]
                 rcases zO.1 ht with h | h
                 · exact absurd h hm
                 · exact h3 t h
             · simp only [zO,not_or] at ht
               rw [(hpl.2 t ht.1).1,(hpl.2 t ht.1).2]
               exact h4 t ht.2
           · trivial
       · trivial
   | _=>trivial
theorem zdN {D:Den} {σ:Sig} {s1 s2:Nat→V} {d:Option Nat} {l:Bool} {x:X} (hl:x.loc=true) (h:∀ t∈d.toList++x.rds,s1 t=s2 t) :
    NJ (d.toList++x.wrs) s1 s2 (yY D σ s1 d l x) (yY D σ s2 d l x):=by
 have hdl:∀ t∈d.toList,s1 t=s2 t:=fun t ht=>h t (by simp only [zO];exact .inl ht)
 have hxr:∀ t∈x.rds,s1 t=s2 t:=fun t ht=>h t (by simp only [zO];exact .inr ht)
 have hw:∀ t∈d.toList++x.wrs,s1 t=s2 t:=by
  intro t ht
  refine h t ?_
  simp only [zO] at ht ⊢
  refine ht.imp id fun ht=>?_
  cases x <;> simp only [X.wrs,X.rds] at ht ⊢ <;> first | (simp at ht;done) | (simp only [zO];first | exact .inl ht | exact .inr ht)
 cases x with
 | app g x y=>simp [X.loc] at hl
 | store g x y=>simp [X.loc] at hl
 | mark f as=>simp [X.loc] at hl
 | callG f i as=>simp [X.loc] at hl
 | callT f as bs es=>simp [X.loc] at hl
 | callTN f as bs ds=>simp [X.loc] at hl
 | storeK h x y=>simp [X.loc] at hl
 | copy x y=>simp [X.loc] at hl
 | v a=>
   simp only [yY,X.wrs,xy]
   rw [uR (a:=a) hxr]
   cases yy s2 a with
   | none=>trivial
   | some v=>
     simp only [yU]
     cases d with
     | none=>exact ⟨fun t ht=>absurd ht (by simp),fun t _=>⟨rfl,rfl⟩⟩
     | some d=>exact YF (by simp) (fun t ht=>.inl (by simpa using ht)) v
 | vN a bs=>
   have h1:∀ t∈a.rds,s1 t=s2 t:=fun t ht=>hxr t (by simp [X.rds,ht])
   have h2:uo s1 bs=uo s2 bs:=by
    have hbs:∀ t∈bs,s1 t=s2 t:=fun t ht=>hxr t (by simp [X.rds,ht])
    unfold uo
    split
    · rw [hbs _ (by simp)]
    unfold y5
    have:∀ l:List Nat,(∀ t∈l,s1 t=s2 t)→(l.flatMap fun b=>(s1 b).toks)=l.flatMap fun b=>(s2 b).toks:=by
     intro l
     induction l with
     | nil=>intro _;rfl
     | cons x l ih=>intro h;simp only [WE,h x (by simp),ih fun t ht=>h t (by simp [ht])]
    exact this _ hbs
   have h3:(a.rds.all fun t=>(s1 t).live && (s1 t).toks.all fun k=>!(uo s1 bs).contains k)=(a.rds.all fun t=>(s2 t).live && (s2 t).toks.all fun k=>!(uo s2 bs).contains k):=by
    rw [h2]
    have:∀ l:List Nat,(∀ t∈l,s1 t=s2 t)→(l.all fun t=>(s1 t).live && (s1 t).toks.all fun k=>!(uo s2 bs).contains k)=(l.all fun t=>(s2 t).live && (s2 t).toks.all fun k=>!(uo s2 bs).contains k):=by
     intro l
     induction l with
     | nil=>intro _;rfl
     | cons x l ih=>intro h;simp only [List.all_cons,h x (by simp),ih fun t ht=>h t (by simp [ht])]
    exact this _ h1
   have h4:∀ k,(a.rds.any fun t=>(s1 t).toks.contains k)=(a.rds.any fun t=>(s2 t).toks.contains k):=by
    intro k
    have:∀ l:List Nat,(∀ t∈l,s1 t=s2 t)→(l.any fun t=>(s1 t).toks.contains k)=(l.any fun t=>(s2 t).toks.contains k):=by
     intro l
     induction l with
     | nil=>intro _;rfl
     | cons x l ih=>intro h;simp only [List.any_cons,h x (by simp),ih fun t ht=>h t (by simp [ht])]
    exact this _ h1
   simp only [yY,X.wrs,xy]
   simp only [h4]
   rw [uR (a:=a) h1,h3,h2]
   cases yy s2 a with
   | none=>trivial
   | some v=>
     simp only
     split
     · cases d with
       | none=>exact ⟨fun t ht=>absurd ht (by simp),fun t _=>⟨rfl,rfl⟩⟩
       | some d=>exact YF (by simp) (fun t ht=>.inl (by simpa using ht)) v
     · trivial
 | alloc z=>
   simp only [yY,X.wrs,xy]
   cases d with
   | none=>trivial
   | some d=>
     simp only
     rw [← hdl d (by simp)]
     split
     · exact YF (by simp) (fun t ht=>.inl (by simpa using ht)) _
     · trivial
 | box x=>
   simp only [yY,X.wrs,xy]
   rw [y9 (x:=x) hxr]
   cases d with
   | none=>trivial
   | some d=>
     cases x.rd s2 with
     | none=>trivial
     | some v=>
       simp only
       rw [← hdl d (by simp)]
       split
       · split
         · exact YF (by simp) (fun t ht=>.inl (by simpa using ht)) _
         · trivial
       · trivial
 | mk n z z0=>
   simp only [yY,X.wrs,xy]
   rw [y9 (x:=n) hxr]
   cases d with
   | none=>trivial
   | some d=>
     cases n.rd s2 with
     | none=>trivial
     | some v=>
       cases v with
       | int k m=>
         simp only
         rw [← hdl d (by simp)]
         split
         · split
           · exact YF (by simp) (fun t ht=>.inl (by simpa using ht)) _
           · trivial
         · trivial
       | _=>trivial
 | lit z len ps=>
   simp only [yY,X.wrs,xy]
   rw [vy (ps:=ps) hxr]
   cases d with
   | none=>trivial
   | some d=>
     cases xX s2 ps (List.replicate len z) with
     | none=>trivial
     | some xs=>
       simp only
       rw [← hdl d (by simp)]
       split
       · exact YF (by simp) (fun t ht=>.inl (by simpa using ht)) _
       · trivial
 | litS z len ps=>
   simp only [yY,X.wrs,xy]
   rw [vy (ps:=ps) hxr]
   cases d with
   | none=>trivial
   | some d=>
     cases xX s2 ps (List.replicate len z) with
     | none=>trivial
     | some xs=>
       simp only
       rw [← hdl d (by simp)]
       split
       · exact YF (by simp) (fun t ht=>.inl (by simpa using ht)) _
       · trivial
 | call f as=>exact Nr hdl hxr
 | callO f as=>exact Nr hdl hxr
 | appS g x y=>
   simp only [yY,X.wrs]
   rw [y9 (x:=y) fun t ht=>hxr t (by simp [X.rds,ht])]
   cases d with
   | none=>trivial
   | some d=>
     have hsp:(∃ a1 a2 v,Wl s1 x=some (a1,v)∧Wl s2 x=some (a2,v)∧(∀ t∈x.rds,a1 t=a2 t)∧(∀ t,t∉x.rds→a1 t=s1 t∧a2 t=s2 t))∨(Wl s1 x=none∧Wl s2 x=none):=by
      cases x with
      | t r=>
        have e:s1 r=s2 r:=hxr r (by simp [X.rds,O.rds])
        have h0:∀ s:Nat→V,Wl s (.t r)=(match s r with
         | .lin (.sl (.at r' p) h lo xs)=>if (decide (r'=r) && (V.tokss xs).isEmpty)=true then some (upd s r .dead,.sl (.at r' p) h lo xs) else none
         | .sl .nl h lo xs=>some (s,.sl .nl h lo xs)
         | _=>none):=fun _=>rfl
        rw [h0 s1,h0 s2,e]
        clear hxr
        generalize hw:s2 r=w
        split
        · split
          · left
            refine ⟨_,_,_,rfl,rfl,fun t ht=>?_,fun t ht=>?_⟩
            · have:t=r:=by simpa [O.rds] using ht
              subst this;simp
            · have:t≠r:=by rintro rfl;simp [O.rds] at ht
              rw [zX _ _ this,zX _ _ this];exact ⟨rfl,rfl⟩
          · exact .inr ⟨rfl,rfl⟩
        · left
          refine ⟨_,_,_,rfl,rfl,fun t ht=>?_,fun t _=>⟨rfl,rfl⟩⟩
          have:t=r:=by simpa [O.rds] using ht
          subst this;exact e
        · exact .inr ⟨rfl,rfl⟩
      | k u=>
        clear hl hxr h hw
        have h0:∀ s:Nat→V,Wl s (.k u)=(match u with
         | .sl .nl h lo xs=>some (s,.sl .nl h lo xs)
         | _=>none):=fun _=>by
           cases u with
           | sl t _ _ _=>cases t <;> rfl
           | _=>rfl
        rw [h0 s1,h0 s2]
        split
        · exact .inl ⟨_,_,_,rfl,rfl,fun t ht=>by simp [O.rds] at ht,fun t _=>⟨rfl,rfl⟩⟩
        · exact .inr ⟨rfl,rfl⟩
     rcases hsp with ⟨a1,a2,v,e1,e2,h3,h4⟩ | ⟨e1,e2⟩
     · rw [e1,e2]
       cases v with
       | sl t g1 lo xs=>
         cases y.rd s2 with
         | none=>trivial
         | some yv=>
           cases yv with
           | sl t2 g2 lo2 ys=>
             simp only
             have hdd:a1 d=a2 d:=by
              by_cases hm:d∈x.rds
              · exact h3 d hm
              · rw [(h4 d hm).1,(h4 d hm).2];exact hdl d (by simp)
             rw [← hdd]
             split
             · split
               · refine ⟨fun k hk=>?_,fun k hk=>?_⟩
                 · by_cases e:k=d
                   · subst e;simp
                   · rw [zX _ _ e,zX _ _ e]
                     simp only [Option.toList_some,zO,xo] at hk
                     exact h3 k (hk.resolve_left e)
                 · simp only [Option.toList_some,zO,xo,not_or] at hk
                   rw [zX _ _ hk.1,zX _ _ hk.1]
                   exact h4 k hk.2
               · trivial
             · trivial
           | _=>trivial
       | _=>trivial
     · rw [e1,e2];trivial
theorem LA {D:Den} {σ:Sig} {s1 s2:Nat→V} {i:I} (hl:i.x.loc=true) (h:∀ t∈i.rds,s1 t=s2 t):NJ i.wrs s1 s2 (step D σ s1 i) (step D σ s2 i):=by
 have h1:∀ t∈i.d.toList++i.x.rds,s1 t=s2 t:=fun t ht=>h t (by
  simp only [I.rds,zO] at ht ⊢
  rcases ht with ht | ht
  · exact .inl (.inl ht)
  · exact .inr ht)
 have hx:=zdN (D:=D) (σ:=σ) (l:=i.l) hl h1
 unfold step
 cases hg:i.g with
 | none=>exact hx
 | some jw=>
   obtain ⟨j,want⟩:=jw
   simp only
   rw [← h j (by simp [I.rds,hg])]
   have sk:NJ i.wrs s1 s2 (some (put s1 i.d (.tup []))) (some (put s2 i.d (.tup []))):=by
    cases hd:i.d with
    | none=>exact ⟨fun t ht=>h t (by simp only [I.wrs,hd,I.rds,zO] at ht ⊢;rcases ht with ht | ht;simp at ht;right;cases hx':i.x <;> rw [hx'] at ht <;> simp only [X.wrs,X.rds] at ht ⊢ <;> first | (simp at ht;done) | (simp only [zO];first | exact .inl ht | exact .inr ht)),fun t _=>⟨rfl,rfl⟩⟩
    | some d=>
      have:=YF (s1:=s1) (s2:=s2) (d:=d) (W:=[d]) (by simp) (fun t ht=>.inl (by simpa using ht)) (.tup [])
      refine this.widen (by simp [I.wrs,hd]) ?_
      intro t ht
      refine h t ?_
      simp only [I.wrs,hd,I.rds,zO] at ht ⊢
      rcases ht with ht | ht
      · exact .inl (.inl ht)
      · right
        cases hx':i.x <;> rw [hx'] at ht <;> simp only [X.wrs,X.rds] at ht ⊢ <;> first | (simp at ht;done) | (simp only [zO];first | exact .inl ht | exact .inr ht)
   split
   · split
     · exact hx
     · exact sk
   · exact sk
   · trivial
def I.apart1 (i j:I):Bool:=i.x.loc && j.x.loc && i.wrs.all (fun t=>!j.rds.contains t && !j.wrs.contains t) && j.wrs.all (fun t=>!i.rds.contains t)
theorem zdG {D:Den} {σ:Sig} {s s1 s2:Nat→V} {i j:I} (h:i.apart1 j=true) (h1:step D σ s i=some s1) (h2:step D σ s1 j=some s2) :
    ∃ s1',step D σ s j=some s1'∧step D σ s1' i=some s2:=by
 simp only [I.apart1,zp,yN,yT] at h
 obtain ⟨⟨⟨hli,hlj⟩,hij⟩,hji⟩:=h
 have hij1:∀ t∈i.wrs,t∉j.rds:=fun t ht=>by have:=(hij t ht).1;simpa using this
 have hij2:∀ t∈i.wrs,t∉j.wrs:=fun t ht=>by have:=(hij t ht).2;simpa using this
 have hji1:∀ t∈j.wrs,t∉i.rds:=fun t ht=>by have:=hji t ht;simpa using this
 have e1:∀ t,t∉i.wrs→s1 t=s t:=by
  have:=LA (D:=D) (σ:=σ) (s1:=s) (s2:=s) (i:=i) hli (fun t _=>rfl)
  rw [h1] at this
  exact fun t ht=>(this.2 t ht).1
 have hj:=LA (D:=D) (σ:=σ) (s1:=s1) (s2:=s) (i:=j) hlj (fun t ht=>e1 t (fun hm=>hij1 t hm ht))
 rw [h2] at hj
 cases hj':step D σ s j with
 | none=>rw [hj'] at hj;exact hj.elim
 | some s1'=>
   rw [hj'] at hj
   refine ⟨s1',rfl,?_⟩
   have hi:=LA (D:=D) (σ:=σ) (s1:=s) (s2:=s1') (i:=i) hli (fun t ht=>((hj.2 t (fun hm=>hji1 t hm ht)).2).symm)
   rw [h1] at hi
   cases hi':step D σ s1' i with
   | none=>rw [hi'] at hi;exact hi.elim
   | some s2'=>
     rw [hi'] at hi
     congr 1
     funext t
     by_cases ht:t∈i.wrs
     · rw [← hi.1 t ht,(hj.2 t (hij2 t ht)).1]
     · rw [(hi.2 t ht).2]
       by_cases ht2:t∈j.wrs
       · exact (hj.1 t ht2).symm
       · rw [(hj.2 t ht2).2,(hj.2 t ht2).1,e1 t ht]
def I.apart2 (i j:I):Bool:=match i,j with
 | ⟨some d,none,_,.v (.extS (.t a) _)⟩,⟨none,none,_,.store _ (.t b) (.t c)⟩=>decide (d≠a) && (decide (d≠b) && decide (d≠c))
 | _,_=>false
theorem zc0 {tk:Tok} {i:Nat} {q:List Nat} {u:V}:∀ (vs:List V) (k:Nat),(V.muts tk i q u vs)[k]?=(vs[k]?).map (V.mut tk i q u)
 | [],k=>by simp [V.muts]
 | v :: vs,0=>by simp [V.muts]
 | v :: vs,k + 1=>by simp [V.muts,zc0 vs k]
theorem zd8 {D:Den} {σ:Sig} {s s1 s2:Nat→V} {i j:I} (h:i.apart2 j=true) (h1:step D σ s i=some s1) (h2:step D σ s1 j=some s2) :
    ∃ s1',step D σ s j=some s1'∧step D σ s1' i=some s2:=by
 unfold I.apart2 at h
 split at h
 · rename_i d l a k l2 g b c
   simp only [zp,ya] at h
   obtain ⟨ha,hb,hc⟩:=h
   simp only [step,yY] at h1
   cases he:yy s (.extS (.t a) k) with
   | none=>rw [he] at h1;cases h1
   | some v=>
     rw [he] at h1
     simp [put] at h1
     subst h1
     have hrd:∀ t,d≠t→(O.t t).rd (upd s d v)=(O.t t).rd s:=by
      intro t ht
      exact y9 (x:=.t t) fun t' ht'=>by
       have:t'=t:=by simpa [O.rds] using ht'
       subst this;exact zX _ _ (Ne.symm ht)
     simp only [step,yY] at h2 ⊢
     rw [hrd b hb,hrd c hc] at h2
     split at h2
     · rename_i t' i' q' c' v' h3 h4
       split at h2
       · rename_i hcond
         simp only [zn] at h2
         subst h2
         try simp only [h3,h4]
         rw [if_pos hcond]
         refine ⟨_,rfl,?_⟩
         simp only [yy] at he ⊢
         split at he
         · rename_i vs hvs
           have hsa:s a = .tup vs:=by
            unfold O.rd at hvs
            by_cases hk:(O.ev s (.t a)).ok=true
            · rw [if_pos hk] at hvs;simpa [O.ev] using hvs
            · rw [zy hk] at hvs;cases hvs
           have hvs2:(O.t a).rd (Uy t' i' q' v' s)=some (.tup (V.muts t' i' q' v' vs)):=by
            simp only [O.rd,O.ev,Uy,hsa,V.mut,V.ok,z5]
           rw [hvs2]
           simp only [zc0]
           split at he
           · rename_i k' n' hk
             simp only [zn] at he;subst he
             rw [hk]
             simp only [yU,V.mut,put,zn]
             funext t
             by_cases e:t=d
             · subst e;simp [Uy,V.mut]
             · rw [zX _ _ e];simp only [Uy];rw [zX _ _ e]
           · rename_i b' hk
             simp only [zn] at he;subst he
             rw [hk]
             simp only [yU,V.mut,put,zn]
             funext t
             by_cases e:t=d
             · subst e;simp [Uy,V.mut]
             · rw [zX _ _ e];simp only [Uy];rw [zX _ _ e]
           · cases he
         · cases he
       · cases h2
     · cases h2
 · cases h
mutual
theorem WS {ks:List Tok} (hn:ks.contains .nl=false):∀ v:V,(∀ k∈v.toks,ks.contains k=false)→V.map (ZW ks) v=v
 | .dead,_ | .gone,_ | .int ..,_ | .bool _,_=>rfl
 | .lin v,h=>by simp only [V.map];rw [WS hn v (by simpa [V.toks] using h)]
 | .agg vs,h=>by simp only [V.map];rw [Xe hn vs (by simpa [V.toks] using h)]
 | .tup vs,h=>by simp only [V.map];rw [Xe hn vs (by simpa [V.toks] using h)]
 | .fn g fs env,h=>by simp only [V.map];rw [Xe hn fs fun k hk=>h k (by simp [V.toks,hk]),Xe hn env fun k hk=>h k (by simp [V.toks,hk])]
 | .ref t i q c,h=>by
   cases t with
   | sh=>rfl
   | nl=>simp only [V.map,ZW,hn];rw [WS hn c fun k hk=>h k (by simp [V.toks,hk])];rfl
   | «at» r p=>
     have h1:=h (.at r p) (by simp [V.toks])
     simp only [V.map,ZW,h1];rw [WS hn c fun k hk=>h k (by simp [V.toks,hk])];rfl
   | bx r=>
     have h1:=h (.bx r) (by simp [V.toks])
     simp only [V.map,ZW,h1];rw [WS hn c fun k hk=>h k (by simp [V.toks,hk])];rfl
 | .sl t g lo xs,h=>by
   cases t with
   | sh=>rfl
   | nl=>
     simp only [V.map,ZW,hn]
     by_cases hf:g.flat=true
     · simp [hf]
     · have hf:g.flat=false:=by simpa using hf
       simp only [hf]
       rw [Xe hn xs fun k hk=>h k (by simp [V.toks,hf,hk])];rfl
   | «at» r p=>
     have h1:=h (.at r p) (by simp [V.toks])
     simp only [V.map,ZW,h1]
     by_cases hf:g.flat=true
     · simp [hf]
     · have hf:g.flat=false:=by simpa using hf
       simp only [hf]
       rw [Xe hn xs fun k hk=>h k (by simp [V.toks,hf,hk])];rfl
   | bx r=>
     have h1:=h (.bx r) (by simp [V.toks])
     simp only [V.map,ZW,h1]
     by_cases hf:g.flat=true
     · simp [hf]
     · have hf:g.flat=false:=by simpa using hf
       simp only [hf]
       rw [Xe hn xs fun k hk=>h k (by simp [V.toks,hf,hk])];rfl
theorem Xe {ks:List Tok} (hn:ks.contains .nl=false):∀ vs:List V,(∀ k∈V.tokss vs,ks.contains k=false)→V.maps (ZW ks) vs=vs
 | [],_=>rfl
 | v :: vs,h=>by simp only [V.maps];rw [WS hn v fun k hk=>h k (by simp [V.tokss,hk]),Xe hn vs fun k hk=>h k (by simp [V.tokss,hk])]
end
theorem YT {s1 s2:Nat→V}:∀ {l:List Nat},(∀ t∈l,s1 t=s2 t)→y5 s1 l=y5 s2 l
 | [],_=>rfl
 | x :: l,h=>by
   have:=YT (l:=l) fun t ht=>h t (by simp [ht])
   unfold y5 at this ⊢
   simp only [WE,h x (by simp),this]
theorem Mk {s1 s2:Nat→V}:∀ {l:List Nat} {v:V},(∀ t∈l,s1 t=s2 t)→Ys s1 l v=Ys s2 l v
 | [],_,_=>rfl
 | b :: l,v,h=>by
   have h1:=h b (by simp)
   have h2:∀ v,Ys s1 l v=Ys s2 l v:=fun v=>Mk fun t ht=>h t (by simp [ht])
   cases v with
   | ref t0 i q c0=>
     cases t0 with
     | bx r=>simp only [Ys,h1,h2]
     | _=>rfl
   | _=>rfl
theorem Ms {s1 s2:Nat→V} {ks:List Tok}:∀ {l:List Nat} {us:List V},(∀ t∈l,s1 t=s2 t)→Wg s1 ks l us=Wg s2 ks l us
 | [],us,_=>by cases us <;> rfl
 | b :: l,[],_=>rfl
 | b :: l,u :: us,h=>by
   simp only [Wg,h b (by simp),Ms (l:=l) (us:=us) fun t ht=>h t (by simp [ht])]
theorem Xd {D:Den} {σ:Sig} {s1 s2:Nat→V} {f:O} {args:List O} {bs:List Nat} (h:∀ t∈f.rds++args.flatMap O.rds++bs,s1 t=s2 t):W4 D σ s1 f args bs []=W4 D σ s2 f args bs []:=by
 have h1:f.rd s1=f.rd s2:=y9 fun t ht=>h t (by simp [ht])
 have h2:Z0 s1 args=Z0 s2 args:=Xb fun t ht=>h t (by rw [zO,zO];exact .inl (.inr ht))
 have hb:∀ t∈bs,s1 t=s2 t:=fun t ht=>h t (by simp [ht])
 have h3:y5 s1 (bs++[])=y5 s2 (bs++[]):=YT (by simpa using hb)
 have h4:Ys s1 bs=Ys s2 bs:=funext fun v=>Mk hb
 have h5:Wg s1 (y5 s2 (bs++[])) bs=Wg s2 (y5 s2 (bs++[])) bs:=funext fun us=>Ms hb
 unfold W4
 rw [h1,h2,h3,h4,h5]
 rfl
theorem Lu {D:Den} {σ:Sig} {s:Nat→V} {f:O} {args:List O} {bs:List Nat} {p:List Tok×List (Nat×Nat×List Nat×V)×V} (h:W4 D σ s f args bs []=some p):p.1=y5 s bs∧∃ us,Wg s p.1 bs us=some p.2.1:=by
 unfold W4 at h
 repeat' split at h
 all_goals first
  | (cases h;done)
  | (simp only [ye] at h
     obtain ⟨l,hl,rfl⟩:=h
     exact ⟨by simp,_,hl⟩)
theorem K7 {ks:List Tok} {l:List (Nat×Nat×List Nat×V)} {v:V} (hn:ks.contains .nl=false) (hl:∀ e∈l,ks.contains (.bx e.1)=true) (h:∀ k∈v.toks,ks.contains k=false):upG ks l v=v:=by
 rcases WW (ks:=ks) (l:=l) v with ⟨e,he,c,rfl,_⟩ | h1
 · have h2:=h (.bx e.1) (by simp [V.toks])
   rw [hl e he] at h2;cases h2
 · rw [h1];exact WS hn v h
mutual
theorem WH {ks:List Tok} (hn:ks.contains .nl=false):∀ v:V,(V.map (ZW ks) v).live=true→∀ k∈v.toks,ks.contains k=false
 | .dead,h | .gone,h=>by simp [V.map,V.live] at h
 | .int ..,_ | .bool _,_=>by intro k hk;simp [V.toks] at hk
 | .lin v,h=>by simp only [V.map,V.live] at h;simpa [V.toks] using WH hn v h
 | .agg vs,h=>by simp only [V.map,V.live] at h;simpa [V.toks] using Yc hn vs h
 | .tup vs,h=>by simp only [V.map,V.live] at h;simpa [V.toks] using Yc hn vs h
 | .fn g fs env,h=>by
   simp only [V.map,V.live,zp] at h
   intro k hk
   simp only [V.toks,zO] at hk
   rcases hk with hk | hk
   · exact Yc hn fs h.1 k hk
   · exact Yc hn env h.2 k hk
 | .ref t i q c,h=>by
   cases t with
   | sh=>intro k hk;simp [V.toks] at hk
   | nl=>
     simp only [V.map,ZW,hn] at h
     simp [V.live] at h
     simpa [V.toks] using WH hn c h
   | «at» r p=>
     simp only [V.map,ZW] at h
     cases hc:ks.contains (.at r p) with
     | true=>rw [hc] at h;simp [V.live] at h
     | false=>
       rw [hc] at h
       simp [V.live] at h
       intro k hk
       simp only [V.toks,yf] at hk
       rcases hk with rfl | hk
       · exact hc
       · exact WH hn c h k hk
   | bx r=>
     simp only [V.map,ZW] at h
     cases hc:ks.contains (.bx r) with
     | true=>rw [hc] at h;simp [V.live] at h
     | false=>
       rw [hc] at h
       simp [V.live] at h
       intro k hk
       simp only [V.toks,yf] at hk
       rcases hk with rfl | hk
       · exact hc
       · exact WH hn c h k hk
 | .sl t g lo xs,h=>by
   cases t with
   | sh=>intro k hk;simp [V.toks] at hk
   | nl=>
     simp only [V.map,ZW,hn] at h
     intro k hk
     by_cases hf:g.flat=true
     · simp [V.toks,hf] at hk
     · have hf:g.flat=false:=by simpa using hf
       simp [V.live,hf] at h
       simp [V.toks,hf] at hk
       exact Yc hn xs h k hk
   | «at» r p=>
     simp only [V.map,ZW] at h
     cases hc:ks.contains (.at r p) with
     | true=>rw [hc] at h;simp [V.live] at h
     | false=>
       rw [hc] at h
       intro k hk
       by_cases hf:g.flat=true
       · simp [V.toks,hf] at hk;rw [hk];exact hc
       · have hf:g.flat=false:=by simpa using hf
         simp [V.live,hf] at h
         simp [V.toks,hf] at hk
         rcases hk with rfl | hk
         · exact hc
         · exact Yc hn xs h k hk
   | bx r=>
     simp only [V.map,ZW] at h
     cases hc:ks.contains (.bx r) with
     | true=>rw [hc] at h;simp [V.live] at h
     | false=>
       rw [hc] at h
       intro k hk
       by_cases hf:g.flat=true
       · simp [V.toks,hf] at hk;rw [hk];exact hc
       · have hf:g.flat=false:=by simpa using hf
         simp [V.live,hf] at h
         simp [V.toks,hf] at hk
         rcases hk with rfl | hk
         · exact hc
         · exact Yc hn xs h k hk
theorem Yc {ks:List Tok} (hn:ks.contains .nl=false):∀ vs:List V,V.lives (V.maps (ZW ks) vs)=true→∀ k∈V.tokss vs,ks.contains k=false
 | [],_=>by intro k hk;simp [V.tokss] at hk
 | v :: vs,h=>by
   simp only [V.maps,V.lives,zp] at h
   intro k hk
   simp only [V.tokss,zO] at hk
   rcases hk with hk | hk
   · exact WH hn v h.1 k hk
   · exact Yc hn vs h.2 k hk
end
def I.apart4 (i j:I):Bool:=match i,j with
 | ⟨some d,none,_,.vN a bs⟩,⟨some e,none,_,.callT f args bs' []⟩=>decide (bs'=bs) && (decide (bs.length=1) && (!(f.rds++args.flatMap O.rds++bs).contains d && (decide (d≠e) && (!a.rds.contains e && !bs.contains e))))
 | ⟨some e,none,_,.callT f args bs []⟩,⟨some d,none,_,.v (.mov (.t a))⟩=>!(f.rds++args.flatMap O.rds++bs).contains d && (decide (d≠e) && decide (a≠e))
 | ⟨some d,none,_,.v (.mov (.t a))⟩,⟨some e,none,_,.callT f args bs []⟩=>!(f.rds++args.flatMap O.rds++bs).contains d && (decide (d≠e) && decide (a≠e))
 | ⟨some e,none,_,.callT f args bs' []⟩,⟨some d,none,_,.vN a bs⟩=>decide (bs'=bs) && (decide (bs.length=1) && (!(f.rds++args.flatMap O.rds++bs).contains d && (decide (d≠e) && (!a.rds.contains e && !bs.contains e))))
 | ⟨some d,none,_,.litS _ _ ps⟩,⟨some e,none,_,.callT f args bs []⟩=>(ps.all fun p=>p.2.2.rds.isEmpty) && (!(f.rds++args.flatMap O.rds++bs).contains d && decide (d≠e))
 | ⟨some d,none,_,.vN _ [b,_]⟩,⟨none,none,_,.store _ (.t e) (.t c)⟩=>decide (e=b) && (decide (d≠b) && decide (d≠c))
 | _,_=>false
mutual
theorem X8 {t:Tok} {i:Nat} {q:List Nat} {u:V} (hn:t≠.nl):∀ v:V,(∀ k∈v.toks,k≠t)→V.mut t i q u v=v
 | .dead,_ | .gone,_ | .int ..,_ | .bool _,_=>by simp only [V.mut]
 | .sl t' g lo xs,h=>by
   cases t' with
   | sh=>simp only [V.mut]
   | nl=>
     simp only [V.mut,zy hn]
     by_cases hf:g.flat=true
     · simp [hf]
     · have hf:g.flat=false:=by simpa using hf
       simp only [hf]
       rw [Xc hn xs fun k hk=>h k (by simp [V.toks,hf,hk])];rfl
   | «at» r p=>
     have h1:t≠.at r p:=fun e=>h (.at r p) (by simp [V.toks]) e.symm
     simp only [V.mut,zy h1]
     by_cases hf:g.flat=true
     · simp [hf]
     · have hf:g.flat=false:=by simpa using hf
       simp only [hf]
       rw [Xc hn xs fun k hk=>h k (by simp [V.toks,hf,hk])];rfl
   | bx r=>
     have h1:t≠.bx r:=fun e=>h (.bx r) (by simp [V.toks]) e.symm
     simp only [V.mut,zy h1]
     by_cases hf:g.flat=true
     · simp [hf]
     · have hf:g.flat=false:=by simpa using hf
       simp only [hf]
       rw [Xc hn xs fun k hk=>h k (by simp [V.toks,hf,hk])];rfl
 | .ref t' j p c,h=>by
   cases t' with
   | sh=>simp only [V.mut]
   | nl=>
     simp only [V.mut]
     rw [zy (fun e=>hn e.1),X8 hn c fun k hk=>h k (by simp [V.toks,hk])]
   | «at» r p'=>
     simp only [V.mut]
     rw [zy (fun e=>h (.at r p') (by simp [V.toks]) e.1.symm),X8 hn c fun k hk=>h k (by simp [V.toks,hk])]
   | bx r=>
     simp only [V.mut]
     rw [zy (fun e=>h (.bx r) (by simp [V.toks]) e.1.symm),X8 hn c fun k hk=>h k (by simp [V.toks,hk])]
 | .agg vs,h=>by simp only [V.mut];rw [Xc hn vs fun k hk=>h k (by simp [V.toks,hk])]
 | .tup vs,h=>by simp only [V.mut];rw [Xc hn vs fun k hk=>h k (by simp [V.toks,hk])]
 | .fn g fs env,h=>by simp only [V.mut];rw [Xc hn fs fun k hk=>h k (by simp [V.toks,hk]),Xc hn env fun k hk=>h k (by simp [V.toks,hk])]
 | .lin v,h=>by simp only [V.mut];rw [X8 hn v fun k hk=>h k (by simp [V.toks,hk])]
theorem Xc {t:Tok} {i:Nat} {q:List Nat} {u:V} (hn:t≠.nl):∀ vs:List V,(∀ k∈V.tokss vs,k≠t)→V.muts t i q u vs=vs
 | [],_=>by simp only [V.muts]
 | v :: vs,h=>by simp only [V.muts];rw [X8 hn v fun k hk=>h k (by simp [V.tokss,hk]),Xc hn vs fun k hk=>h k (by simp [V.tokss,hk])]
end
theorem W7 {D:Den} {σ:Sig} {s s1 s2:Nat→V} {i j:I} (h:i.apart4 j=true) (h1:step D σ s i=some s1) (h2:step D σ s1 j=some s2) :
    ∃ s1',step D σ s j=some s1'∧step D σ s1' i=some s2:=by
 unfold I.apart4 at h
 split at h
 · rename_i d l a bs e l2 f args bs'
   simp only [zp,ya,yT] at h
   obtain ⟨rfl,hlen,hd,hde,hea,heb⟩:=h
   have hd':∀ t∈f.rds++args.flatMap O.rds++bs',t≠d:=by
    rintro t ht rfl
    have:=xe.2 ht
    rw [this] at hd;cases hd
   have hea':∀ t∈a.rds,t≠e:=by
    rintro t ht rfl
    have:=xe.2 ht
    rw [this] at hea;cases hea
   have heb':∀ t∈bs',t≠e:=by
    rintro t ht rfl
    have:=xe.2 ht
    rw [this] at heb;cases heb
   simp only [step,yY] at h1 h2 ⊢
   simp only [zf2 hlen] at h1 ⊢
   split at h1
   case h_2=>cases h1
   rename_i v hv
   split at h1
   case isFalse=>cases h1
   rename_i hchk
   simp only [zn,put] at h1
   subst h1
   simp only [JL] at h2 ⊢
   rw [Xd (s2:=s) fun t ht=>zX _ _ (hd' t ht)] at h2
   cases hc:W4 D σ s f args bs' [] with
   | none=>rw [hc] at h2;cases h2
   | some p=>
     obtain ⟨hp,us,hl⟩:=Lu hc
     obtain ⟨hl1,hl2⟩:=UD hl
     rw [hc] at h2
     simp only [yU,zn,put] at h2 ⊢
     subst h2
     refine ⟨_,rfl,?_⟩
     obtain ⟨ks,lb,r⟩:=p
     simp only at hp hl hl1 hl2 ⊢
     have hsub:∀ b∈bs',∀ k∈(s b).toks,ks.contains k=true:=by
      intro b hb k hk
      rw [hp]
      exact xe.2 (XK.2 ⟨b,hb,hk⟩)
     have hn:ks.contains .nl=false:=by
      cases hb:ks.contains .nl with
      | false=>rfl
      | true=>
        have:=xe.1 hb
        rw [hp] at this
        obtain ⟨b,_,hk⟩:=Xu this
        exact absurd rfl (ZB _ _ hk).2
     have hlb:∀ en∈lb,ks.contains (.bx en.1)=true:=by
      intro en hen
      obtain ⟨b,hb,c,t',c',hs,_⟩:=hl1 en hen
      exact hsub b hb _ (by rw [hs];simp [V.toks])
     simp only [zp,yN,yT] at hchk
     rw [← hp] at hchk
     have hfree:∀ t∈a.rds,upG ks lb (s t)=s t:=fun t ht=>K7 hn hlb fun k hk=>(hchk.1 t ht).2 k hk
     have hev:yy (upd (fun t=>upG ks lb (s t)) e r) a=some v:=by
      rw [← hv]
      exact uR fun t ht=>by rw [zX _ _ (hea' t ht),hfree t ht]
     have hst:∀ k∈y5 (upd (fun t=>upG ks lb (s t)) e r) bs',ks.contains k=true:=by
      intro k hk
      obtain ⟨b,hb,hkb⟩:=Xu hk
      rw [zX _ _ (heb' b hb)] at hkb
      rcases WW (ks:=ks) (l:=lb) (s b) with ⟨en,hen,_,_,h⟩ | h
      · rw [h] at hkb
        obtain ⟨b1,_,c0,t',c',_,_,h6,h7⟩:=hl1 en hen
        rw [h7] at hkb
        obtain ⟨k0,h0,e0⟩:=Uc (Ws ks) rfl _ k hkb
        exact xe.2 (Z2 (ZB _ k0 h0).2 e0).1
      · rw [h] at hkb
        have hkk:=Km (p:=fun k=>ks.contains k) hn hkb
        exact hsub b hb k hkk.1
     rw [hev]
     simp only
     rw [if_pos ?_]
     · simp only [zn,put]
       funext t
       by_cases e1:t=d
       · subst e1
         rw [upd_same,zX _ _ hde,upd_same]
         exact (K7 hn hlb fun k hk=>(hchk.2 k hk).1).symm
       · rw [zX _ _ e1]
         by_cases e2:t=e
         · subst e2;rw [upd_same,upd_same]
         · rw [zX _ _ e2,zX _ _ e2,zX _ _ e1]
     · simp only [zp,yN,yT]
       have hno:∀ k,ks.contains k=false→(y5 (upd (fun t=>upG ks lb (s t)) e r) bs').contains k=false:=by
        intro k hk
        cases hb:(y5 (upd (fun t=>upG ks lb (s t)) e r) bs').contains k with
        | false=>rfl
        | true=>rw [hst k (xe.1 hb)] at hk;cases hk
       refine ⟨fun t ht=>⟨?_,fun k hk=>hno k ((hchk.1 t ht).2 k ?_)⟩,fun k hk=>⟨hno k (hchk.2 k hk).1,?_⟩⟩
       · rw [zX _ _ (hea' t ht),hfree t ht];exact (hchk.1 t ht).1
       · rw [zX _ _ (hea' t ht),hfree t ht] at hk
         exact hk
       · obtain ⟨t,ht,h3⟩:=ZT.1 (hchk.2 k hk).2
         exact ZT.2 ⟨t,ht,by rw [zX _ _ (hea' t ht),hfree t ht];exact h3⟩
 · rename_i e l2 f args bs d l a
   simp only [zp,ya,yT] at h
   obtain ⟨hd,hde,hae⟩:=h
   have hd':∀ t∈f.rds++args.flatMap O.rds++bs,t≠d:=by
    rintro t ht rfl
    have:=xe.2 ht
    rw [this] at hd;cases hd
   simp only [step,yY,JL] at h1 h2 ⊢
   cases hc:W4 D σ s f args bs [] with
   | none=>rw [hc] at h1;cases h1
   | some p=>
     rw [hc] at h1
     simp only [yU,zn,put] at h1
     subst h1
     simp only [yy,O.rd,O.ev] at h2 ⊢
     simp only [zX _ _ hae] at h2
     have hok:(s a).ok=true:=by
      by_cases hk:(upG p.1 p.2.1 (s a)).ok=true
      · rcases WW (ks:=p.1) (l:=p.2.1) (s a) with ⟨en,_,c,hs,_⟩ | h
        · rw [hs];rfl
        · rw [h] at hk
          cases hs:s a with
          | lin v=>rw [hs] at hk;simp [V.map,V.ok] at hk
          | gone=>rw [hs] at hk;simp [V.map,V.ok] at hk
          | _=>rfl
      · simp only [hk] at h2
        simp at h2
     simp only [hok,z5,yU]
     refine ⟨_,rfl,?_⟩
     rw [Xd (s2:=s) fun t ht=>by simp only [put];exact zX _ _ (hd' t ht),hc]
     simp only [yU]
     by_cases hk:(upG p.1 p.2.1 (s a)).ok=true
     · simp only [hk,z5,yU,zn,put] at h2 ⊢
       subst h2
       funext t
       by_cases e1:t=d
       · subst e1
         rw [zX _ _ hde,upd_same,upd_same]
       · rw [zX _ _ e1]
         by_cases e2:t=e
         · subst e2;rw [upd_same,upd_same]
         · rw [zX _ _ e2,zX _ _ e2,zX _ _ e1]
     · simp only [hk] at h2;simp at h2
 · rename_i d l a e l2 f args bs
   simp only [zp,ya,yT] at h
   obtain ⟨hd,hde,hae⟩:=h
   have hd':∀ t∈f.rds++args.flatMap O.rds++bs,t≠d:=by
    rintro t ht rfl
    have:=xe.2 ht
    rw [this] at hd;cases hd
   simp only [step,yY,JL,yy,O.rd,O.ev] at h1 h2 ⊢
   by_cases hok:(s a).ok=true
   · simp only [hok,z5,yU,zn,put] at h1
     subst h1
     rw [Xd (s2:=s) fun t ht=>zX _ _ (hd' t ht)] at h2
     cases hc:W4 D σ s f args bs [] with
     | none=>rw [hc] at h2;cases h2
     | some p=>
       rw [hc] at h2
       simp only [yU,zn,put] at h2 ⊢
       subst h2
       refine ⟨_,rfl,?_⟩
       have hk:(upG p.1 p.2.1 (s a)).ok=true:=by
        rcases WW (ks:=p.1) (l:=p.2.1) (s a) with ⟨en,hen,c,hs,he⟩ | h
        · obtain ⟨_,us,hl⟩:=Lu hc
          obtain ⟨_,_,_,t',c',_,_,_,h7⟩:=(UD hl).1 en hen
          rw [he,h7]
          simp only [V.map]
          repeat' split
          all_goals rfl
        · rw [h]
          cases hs:s a with
          | lin v=>rw [hs] at hok;simp [V.ok] at hok
          | gone=>rw [hs] at hok;simp [V.ok] at hok
          | sl t g lo xs=>cases t <;> simp only [V.map] <;> (repeat' split) <;> rfl
          | ref t i q c=>cases t <;> simp only [V.map] <;> (repeat' split) <;> rfl
          | _=>rfl
       simp only [zX _ _ hae,hk,z5,yU,zn,put]
       funext t
       by_cases e1:t=d
       · subst e1
         rw [upd_same,zX _ _ hde,upd_same]
       · rw [zX _ _ e1]
         by_cases e2:t=e
         · subst e2;rw [upd_same,upd_same]
         · rw [zX _ _ e2,zX _ _ e2,zX _ _ e1]
   · simp only [hok] at h1
     simp at h1
 · rename_i e l2 f args bs' d l a bs
   simp only [zp,ya,yT] at h
   obtain ⟨rfl,hlen,hd,hde,hea,heb⟩:=h
   have hd':∀ t∈f.rds++args.flatMap O.rds++bs',t≠d:=by
    rintro t ht rfl
    have:=xe.2 ht
    rw [this] at hd;cases hd
   have hea':∀ t∈a.rds,t≠e:=by
    rintro t ht rfl
    have:=xe.2 ht
    rw [this] at hea;cases hea
   have heb':∀ t∈bs',t≠e:=by
    rintro t ht rfl
    have:=xe.2 ht
    rw [this] at heb;cases heb
   simp only [step,yY,JL] at h1 h2 ⊢
   simp only [zf2 hlen] at h2 ⊢
   cases hc:W4 D σ s f args bs' [] with
   | none=>rw [hc] at h1;cases h1
   | some p=>
     obtain ⟨hp,us,hl⟩:=Lu hc
     obtain ⟨hl1,hl2⟩:=UD hl
     rw [hc] at h1
     simp only [yU,zn,put] at h1
     subst h1
     obtain ⟨ks,lb,r⟩:=p
     simp only at hp hl hl1 hl2 h2 ⊢
     have hsub:∀ b∈bs',∀ k∈(s b).toks,ks.contains k=true:=by
      intro b hb k hk
      rw [hp]
      exact xe.2 (XK.2 ⟨b,hb,hk⟩)
     have hn:ks.contains .nl=false:=by
      cases hb:ks.contains .nl with
      | false=>rfl
      | true=>
        have:=xe.1 hb
        rw [hp] at this
        obtain ⟨b,_,hk⟩:=Xu this
        exact absurd rfl (ZB _ _ hk).2
     have hlb:∀ en∈lb,ks.contains (.bx en.1)=true:=by
      intro en hen
      obtain ⟨b,hb,c,t',c',hs,_⟩:=hl1 en hen
      exact hsub b hb _ (by rw [hs];simp [V.toks])
     split at h2
     case h_2=>cases h2
     rename_i v hv
     split at h2
     case isFalse=>cases h2
     rename_i hchk
     simp only [zn,put] at h2
     subst h2
     simp only [zp,yN,yT] at hchk
     have hsame:∀ t∈a.rds,upG ks lb (s t)=s t∧∀ k∈(s t).toks,ks.contains k=false:=by
      intro t ht
      obtain ⟨c1,c2⟩:=hchk.1 t ht
      rw [zX _ _ (hea' t ht)] at c1 c2
      rcases WW (ks:=ks) (l:=lb) (s t) with ⟨en,hen,c,hs,he⟩ | h
      · exfalso
        obtain ⟨b,hb,c0,t',c',h5,_,h6,h7⟩:=hl1 en hen
        have hsome:(lb.find? fun e=>e.1 == en.1 && (e.2.1 == en.2.1 && e.2.2.1 == en.2.2.1)).isSome=true:=by
         rw [List.find?_isSome]
         exact ⟨en,hen,by simp⟩
        obtain ⟨e0,he0⟩:=Option.isSome_iff_exists.1 hsome
        have u1:upG ks lb (s t)=e0.2.2.2:=by rw [hs];simp only [upG,he0]
        have u2:upG ks lb (s b)=e0.2.2.2:=by rw [h5];simp only [upG,he0]
        obtain ⟨b1,hb1,c1',t1',c2',g5,_,g6,g7⟩:=hl1 e0 (List.mem_of_find?_eq_some he0)
        have hmem:Tok.bx e0.1∈e0.2.2.2.toks:=by
         rw [g7]
         cases t1' with
         | sh=>
           have:=(Wh ⟨by simp,by simp⟩ (Z2 (by simp) g6).2).2.1
           simp [Tok.pinned,Tok.root?] at this
         | nl=>simp [Ws] at g6
         | «at» r p=>simp only [V.map,g6];simp [V.toks]
         | bx r=>simp only [V.map,g6];simp [V.toks]
        have k1:=c2 (.bx e0.1) (by rw [u1];exact hmem)
        have k2:Tok.bx e0.1∈y5 (upd (fun t=>upG ks lb (s t)) e r) bs':=XK.2 ⟨b,hb,by rw [zX _ _ (heb' b hb),u2];exact hmem⟩
        rw [xe.2 k2] at k1;cases k1
      · rw [h] at c1
        have hk:=WH hn _ c1
        exact ⟨by rw [h];exact WS hn _ hk,hk⟩
     have hev:yy s a=some v:=by
      rw [← hv]
      exact uR fun t ht=>by rw [zX _ _ (hea' t ht),(hsame t ht).1]
     have hvk:∀ k∈v.toks,ks.contains k=false∧∃ t∈a.rds,(s t).toks.contains k=true:=by
      intro k hk
      obtain ⟨t,ht,h3⟩:=ZT.1 (hchk.2 k hk).2
      rw [zX _ _ (hea' t ht),(hsame t ht).1] at h3
      exact ⟨(hsame t ht).2 k (xe.1 h3),t,ht,h3⟩
     rw [hev]
     simp only
     rw [if_pos ?_]
     · refine ⟨_,rfl,?_⟩
       rw [Xd (s2:=s) fun t ht=>by simp only [put];exact zX _ _ (hd' t ht),hc]
       simp only [yU,zn,put]
       funext t
       by_cases e1:t=d
       · subst e1
         rw [upd_same,zX _ _ hde,upd_same]
         exact K7 hn hlb fun k hk=>(hvk k hk).1
       · rw [zX _ _ e1]
         by_cases e2:t=e
         · subst e2;rw [upd_same,upd_same]
         · rw [zX _ _ e2,zX _ _ e2,zX _ _ e1]
     · simp only [zp,yN,yT]
       rw [← hp]
       refine ⟨fun t ht=>⟨?_,(hsame t ht).2⟩,fun k hk=>⟨(hvk k hk).1,ZT.2 (hvk k hk).2⟩⟩
       have:=(hchk.1 t ht).1
       rwa [zX _ _ (hea' t ht),(hsame t ht).1] at this
 · rename_i d l z len ps e l2 f args bs
   simp only [zp,ya,yT,yN,List.isEmpty_iff] at h
   obtain ⟨hps,hd,hde⟩:=h
   have hd':∀ t∈f.rds++args.flatMap O.rds++bs,t≠d:=by
    rintro t ht rfl
    have:=xe.2 ht
    rw [this] at hd;cases hd
   have hno:∀ (s1 s2:Nat→V) t,t∈ps.flatMap (fun p=>p.2.2.rds)→s1 t=s2 t:=by
    intro s1 s2 t ht
    obtain ⟨p,hp,h⟩:=XK.1 ht
    rw [hps p hp] at h;cases h
   simp only [step,yY,JL] at h1 h2 ⊢
   cases hb:xX s ps (List.replicate len z) with
   | none=>rw [hb] at h1;cases h1
   | some xs=>
     rw [hb] at h1
     simp only at h1
     split at h1
     case h_2=>cases h1
     rename_i hg
     simp only [zn] at h1
     subst h1
     rw [Xd (s2:=s) fun t ht=>zX _ _ (hd' t ht)] at h2
     cases hc:W4 D σ s f args bs [] with
     | none=>rw [hc] at h2;cases h2
     | some p=>
       rw [hc] at h2
       simp only [yU,zn,put] at h2 ⊢
       subst h2
       refine ⟨_,rfl,?_⟩
       rw [vy (hno _ s),hb]
       have hgd:upd (fun t=>upG p.1 p.2.1 (s t)) e p.2.2 d = .gone:=by
        rw [zX _ _ hde,hg];rfl
       simp only [hgd,zn]
       have hfix:upG p.1 p.2.1 (V.frz [.at d []] (.sl (.at d []) z.shape 0 xs))=V.frz [.at d []] (.sl (.at d []) z.shape 0 xs):=by
        have hcc:([Tok.at d []]:List Tok).contains (.at d [])=true:=by simp
        simp only [V.frz,hcc,z5]
        repeat' split
        all_goals rfl
       funext t
       by_cases e1:t=d
       · subst e1
         rw [upd_same,zX _ _ hde,upd_same,hfix]
       · rw [zX _ _ e1]
         by_cases e2:t=e
         · subst e2;rw [upd_same,upd_same]
         · rw [zX _ _ e2,zX _ _ e2,zX _ _ e1]
 · rename_i d l a b b2 l2 g e c
   simp only [zp,ya] at h
   obtain ⟨rfl,hb,hc⟩:=h
   have hrd:∀ t,d≠t→∀ v:V,(O.t t).rd (upd s d v)=(O.t t).rd s:=by
    intro t ht v
    exact y9 (x:=.t t) fun t' ht'=>by
     have:t'=t:=by simpa [O.rds] using ht'
     subst this;exact zX _ _ (Ne.symm ht)
   simp only [step,yY] at h1 h2 ⊢
   split at h1
   case h_2=>cases h1
   rename_i v hv
   split at h1
   case isFalse=>cases h1
   rename_i hchk
   simp only [zn,put] at h1
   subst h1
   rw [hrd _ hb,hrd _ hc] at h2
   split at h2
   case h_2=>cases h2
   rename_i t0 i0 q0 c0 u0 h3 h4
   split at h2
   case isFalse=>cases h2
   rename_i hcond
   simp only [zn] at h2
   subst h2
   rw [if_pos hcond]
   refine ⟨_,rfl,?_⟩
   have hse:s e = .ref t0 i0 q0 c0:=by
    unfold O.rd at h3
    split at h3
    · simpa [O.ev] using h3
    · cases h3
   have hk:uo s [e,b2]=[t0]:=by simp only [uo,hse]
   have hk2:uo (Uy t0 i0 q0 u0 s) [e,b2]=[t0]:=by
    simp only [uo,Uy,hse]
    cases t0 with
    | sh=>exact absurd rfl hcond.1
    | nl=>exact absurd rfl hcond.2.1
    | «at» r p=>simp [V.mut]
    | bx r=>simp [V.mut]
   simp only [hk,zp,yN,yT] at hchk
   have hne:∀ k:Tok,([t0]:List Tok).contains k=false→k≠t0:=by
    rintro k hk rfl
    simp at hk
   have hfree:∀ t∈a.rds,Uy t0 i0 q0 u0 s t=s t:=fun t ht=>X8 hcond.2.1 _ fun k hk=>hne k ((hchk.1 t ht).2 k hk)
   have hev:yy (Uy t0 i0 q0 u0 s) a=some v:=by
    rw [← hv]
    exact uR hfree
   rw [hev]
   simp only [hk2]
   rw [if_pos ?_]
   · simp only [zn,put]
     funext t
     by_cases e1:t=d
     · subst e1
       simp only [Uy,upd_same]
       exact (X8 hcond.2.1 _ fun k hk=>hne k (hchk.2 k hk).1).symm
     · rw [zX _ _ e1];simp only [Uy];rw [zX _ _ e1]
   · simp only [zp,yN,yT]
     refine ⟨fun t ht=>by rw [hfree t ht];exact hchk.1 t ht,fun k hk=>⟨(hchk.2 k hk).1,?_⟩⟩
     obtain ⟨t,ht,h5⟩:=ZT.1 (hchk.2 k hk).2
     exact ZT.2 ⟨t,ht,by rw [hfree t ht];exact h5⟩
 · cases h
def I.apart5 (i j:I):Bool:=match i,j with
 | ⟨some e,none,_,.callTN f args bs ds⟩,⟨some d,none,_,.alloc z⟩=>ds.contains d && (z.toks.isEmpty && (!(f.rds++args.flatMap O.rds++bs).contains d && decide (d≠e)))
 | ⟨some e,none,l,.callTN f args bs _⟩,⟨some d,none,l2,.v a⟩=>(I.mk (some e) none l (.callT f args bs [])).apart4 ⟨some d,none,l2,.v a⟩ && !bs.contains d
 | ⟨some e,none,l,.callTN f args bs _⟩,⟨some d,none,l2,.vN a b2⟩=>(I.mk (some e) none l (.callT f args bs [])).apart4 ⟨some d,none,l2,.vN a b2⟩ && !bs.contains d
 | ⟨some d,none,l2,.v a⟩,⟨some e,none,l,.callTN f args bs _⟩=>(I.mk (some d) none l2 (.v a)).apart4 ⟨some e,none,l,.callT f args bs []⟩ && !bs.contains d
 | ⟨some d,none,l2,.vN a b2⟩,⟨some e,none,l,.callTN f args bs _⟩=>(I.mk (some d) none l2 (.vN a b2)).apart4 ⟨some e,none,l,.callT f args bs []⟩ && !bs.contains d
 | _,_=>false
theorem Wx {D:Den} {σ:Sig} {s s1:Nat→V} {d:Option Nat} {l:Bool} {f:O} {args:List O} {bs ds:List Nat} :
    step D σ s ⟨d,none,l,.callTN f args bs ds⟩=some s1↔((y5 s bs).all fun k=>!(ds.map Tok.bx).contains k)=true∧step D σ s ⟨d,none,l,.callT f args bs []⟩=some s1:=by
 simp only [step,yY]
 constructor
 · intro h
   split at h
   · rename_i hc;exact ⟨hc,h⟩
   · cases h
 · rintro ⟨hc,h⟩;rw [if_pos hc];exact h
theorem zdx {D:Den} {σ:Sig} {s s1:Nat→V} {d:Nat} {l:Bool} {a:A} (h:step D σ s ⟨some d,none,l,.v a⟩=some s1) {t:Nat} (ht:t≠d):s1 t=s t:=by
 simp only [step,yY,ye] at h
 obtain ⟨v,_,rfl⟩:=h
 exact zX _ _ ht
theorem zfo {D:Den} {σ:Sig} {s s1:Nat→V} {d:Nat} {l:Bool} {a:A} {b2:List Nat} (h:step D σ s ⟨some d,none,l,.vN a b2⟩=some s1) {t:Nat} (ht:t≠d):s1 t=s t:=by
 simp only [step] at h
 have h2:=zrw h
 exact zdx (D:=D) (σ:=σ) (l:=l) (a:=a) (by simp only [step];exact h2) ht
theorem zdB {D:Den} {σ:Sig} {s s1 s2:Nat→V} {i j:I} (h:i.apart5 j=true) (h1:step D σ s i=some s1) (h2:step D σ s1 j=some s2) :
    ∃ s1',step D σ s j=some s1'∧step D σ s1' i=some s2:=by
 have hb:∀ {bs:List Nat} {d:Nat},bs.contains d=false→∀ t∈bs,t≠d:=by
  rintro bs d h t ht rfl
  rw [xe.2 ht] at h;cases h
 unfold I.apart5 at h
 split at h
 · rename_i e l f args bs ds d l2 z
   simp only [zp,ya,yT,List.isEmpty_iff] at h
   obtain ⟨hds,hz,hd,hde⟩:=h
   have hd':=hb hd
   obtain ⟨hc,h1⟩:=Wx.1 h1
   simp only [step,yY,JL] at h1 h2 ⊢
   cases hcc:W4 D σ s f args bs [] with
   | none=>rw [hcc] at h1;cases h1
   | some p=>
     obtain ⟨hp,us,hl⟩:=Lu hcc
     obtain ⟨hl1,_⟩:=UD hl
     rw [hcc] at h1
     simp only [yU,zn,put] at h1
     subst h1
     split at h2
     case h_2=>cases h2
     rename_i hg
     simp only [zn] at h2
     subst h2
     rw [zX _ _ hde] at hg
     have hgs:s d = .gone:=by
      rcases WW (ks:=p.1) (l:=p.2.1) (s d) with ⟨en,hen,c,hs,he⟩ | h
      · exfalso
        obtain ⟨_,_,_,t',c',_,_,_,h7⟩:=hl1 en hen
        rw [hg,h7] at he
        cases t' <;> simp only [V.map] at he <;> (repeat' split at he) <;> cases he
      · rw [hg] at h
        cases hs:s d with
        | gone=>rfl
        | sl t g lo xs=>rw [hs] at h;cases t <;> simp only [V.map] at h <;> (repeat' split at h) <;> cases h
        | ref t i q c=>rw [hs] at h;cases t <;> simp only [V.map] at h <;> (repeat' split at h) <;> cases h
        | _=>rw [hs] at h;simp only [V.map] at h;cases h
     rw [hgs]
     refine ⟨_,rfl,?_⟩
     have hst:y5 (upd s d (.ref (.bx d) 0 [] z)) bs=y5 s bs:=YT fun t ht=>zX _ _ (hd' t (by simp [ht]))
     rw [hst,if_pos hc,Xd (s2:=s) fun t ht=>zX _ _ (hd' t ht),hcc]
     simp only [yU,zn,put]
     have hn:p.1.contains .nl=false:=by
      cases hb2:p.1.contains .nl with
      | false=>rfl
      | true=>
        have:=xe.1 hb2
        rw [hp] at this
        obtain ⟨b,_,hk⟩:=Xu this
        exact absurd rfl (ZB _ _ hk).2
     have hlb:∀ en∈p.2.1,p.1.contains (.bx en.1)=true:=by
      intro en hen
      obtain ⟨b,hb3,c,t',c',hs,_⟩:=hl1 en hen
      rw [hp]
      exact xe.2 (XK.2 ⟨b,hb3,by rw [hs];simp [V.toks]⟩)
     have hfree:upG p.1 p.2.1 (.ref (.bx d) 0 [] z) = .ref (.bx d) 0 [] z:=by
      refine K7 hn hlb fun k hk=>?_
      simp only [V.toks,hz,xo] at hk
      subst hk
      cases hb2:p.1.contains (.bx d) with
      | false=>rfl
      | true=>
        have:=xe.1 hb2
        rw [hp] at this
        have h9:=yN.1 hc _ this
        have h10:(ds.map Tok.bx).contains (.bx d)=true:=xe.2 (yX.2 ⟨d,xe.1 hds,rfl⟩)
        rw [h10] at h9;cases h9
     funext t
     by_cases e1:t=d
     · subst e1;rw [zX _ _ hde,upd_same,upd_same];exact hfree
     · rw [zX (upd _ _ _) _ e1]
       by_cases e2:t=e
       · subst e2;rw [upd_same,upd_same]
       · rw [zX _ _ e2,zX _ _ e2,zX _ _ e1]
 · rename_i e l f args bs ds d l2 a
   simp only [zp,yT] at h
   obtain ⟨hc,h1⟩:=Wx.1 h1
   obtain ⟨s1',a1,a2⟩:=W7 h.1 h1 h2
   exact ⟨s1',a1,Wx.2 ⟨by rw [YT (s2:=s) fun t ht=>zdx a1 (hb h.2 t ht)];exact hc,a2⟩⟩
 · rename_i e l f args bs ds d l2 a b2
   simp only [zp,yT] at h
   obtain ⟨hc,h1⟩:=Wx.1 h1
   obtain ⟨s1',a1,a2⟩:=W7 h.1 h1 h2
   exact ⟨s1',a1,Wx.2 ⟨by rw [YT (s2:=s) fun t ht=>zfo a1 (hb h.2 t ht)];exact hc,a2⟩⟩
 · rename_i d l2 a e l f args bs ds
   simp only [zp,yT] at h
   obtain ⟨hc,h2⟩:=Wx.1 h2
   obtain ⟨s1',a1,a2⟩:=W7 h.1 h1 h2
   exact ⟨s1',Wx.2 ⟨by rw [← YT (s1:=s1) (s2:=s) fun t ht=>zdx h1 (hb h.2 t ht)];exact hc,a1⟩,a2⟩
 · rename_i d l2 a b2 e l f args bs ds
   simp only [zp,yT] at h
   obtain ⟨hc,h2⟩:=Wx.1 h2
   obtain ⟨s1',a1,a2⟩:=W7 h.1 h1 h2
   exact ⟨s1',Wx.2 ⟨by rw [← YT (s1:=s1) (s2:=s) fun t ht=>zfo h1 (hb h.2 t ht)];exact hc,a1⟩,a2⟩
 · cases h
def I.apart (i j:I):Bool:=i.apart1 j || i.apart2 j || i.apart4 j || i.apart5 j
theorem zgR {D:Den} {σ:Sig} {s s1 s2:Nat→V} {i j:I} (h:i.apart j=true) (h1:step D σ s i=some s1) (h2:step D σ s1 j=some s2) :
    ∃ s1',step D σ s j=some s1'∧step D σ s1' i=some s2:=by
 unfold I.apart at h
 rw [y8,y8,y8] at h
 rcases h with ((h | h) | h) | h
 · exact zdG h h1 h2
 · exact zd8 h h1 h2
 · exact W7 h h1 h2
 · exact zdB h h1 h2
def X.isSt:X→Bool
 | .store ..=>true
 | _=>false
def X.toS:X→X
 | .app h x y=>.appS h x y
 | .call f as=>.mark f as
 | .mk n _ z0=>.mk n z0 z0
 | x=>x
def X.toO:X→X
 | .call f as=>.callO f as
 | x=>x
def X.toG (p:Nat):X→X
 | .call f as=>.callG f p as
 | x=>x
def X.toT (bs es:List Nat):X→X
 | .call f as=>match es.filter fun e=>decide (400000≤e) with
   | []=>.callT f as bs es
   | ds=>.callTN f as bs (ds.map (· - 400000))
 | .v a=>.vN a bs
 | x=>x
def X.toK:X→X
 | .store h x y=>.storeK h x y
 | x=>x
def X.toLS:X→X
 | .lit z len ps=>.litS z len ps
 | x=>x
def ziI (e:Nat) (sp:List Nat) (i:Nat):List Nat:=sp.filterMap fun n=>if n / 500000=2 * (i + 1) + e then some (n % 500000) else none
def X.ann (sp:List Nat) (i:Nat) (x:X):X:=if sp.contains i then x.toS else if sp.contains (i + 1000) then x.toO else if sp.contains (i + 2000) then x.toG 0 else if sp.contains (i + 3000) then x.toG 1 else if sp.contains (i + 4000) then x.toG 2 else if sp.contains (i + 5000) then x.toK else if sp.contains (i + 6000) then x.toLS else match ziI 0 sp i with
 | []=>x
 | b :: bs=>x.toT (b :: bs) (ziI 1 sp i)
def cI (P:Program) (n:Nat) (ops:Array Oper) (lin sp:List Nat) (i:Nat):Option I:=
 match ops[i]? with
 | none=>none
 | some o=>match cX P o.op o.type with
   | none=>none
   | some x=>
     if (o.dst.all fun k=>decide (k < n)) && (!x.isSt || o.dst.isNone) then
      match o.guard with
      | none=>some ⟨o.dst,none,lin.contains i,x.ann sp i⟩
      | some (j,want)=>match (ops[j]?).bind (·.dst) with
        | some t=>some ⟨o.dst,some (t,want),lin.contains i,x.ann sp i⟩
        | none=>none
     else none
def cIs (P:Program) (n:Nat) (ops:Array Oper) (lin sp:List Nat):List Nat→Option (List I)
 | []=>some []
 | i :: is=>match cI P n ops lin sp i,cIs P n ops lin sp is with
   | some x,some xs=>some (x :: xs)
   | _,_=>none
section
variable {P:Program} {w0:Ori} {S0:Nat→Prop} {n:Nat} {s s':Nat→V} {a:Act} {w:World} {S:Nat→Prop} {τ:Tok→Blk}
theorem ziK {D:Den} {σ:Sig} {d:Option Nat} {l:Bool} {h:Sh} {x y:O} (hst:yY D σ s d l (.appS h x y)=some s'):yY D σ s d l (.app h x y)=some s':=by
 simp only [yY] at hst ⊢
 cases hsp:Wl s x with
 | none=>rw [hsp] at hst;cases d <;> cases hst
 | some r=>rw [zad hsp];rw [hsp] at hst;exact hst
theorem zcZ {a:Act} {t:Nat} {b:Bool} (h:a.eval (.tmp t) = .bool b):a.tmps[t]?=some (.bool b):=by
 simp only [Act.eval] at h
 cases hh:a.tmps[t]? with
 | none=>simp [hh,undef] at h
 | some v=>simp [hh] at h;rw [h]
theorem Ng:zR w S τ (.tup []) undef:=by simp [zR,yB,undef]
theorem zc4 {D:Den} {σ:Sig} (hF:zH P D σ) {ops:Array Oper} {lin sp:List Nat} {i:Nat} {x:I} (hc:cI P n ops lin sp i=some x) (hI:Inv w0 S0 n s a w S τ) (hst:step D σ s x=some s')
    {K:Act→World→Prop} {Q:Exit→Act→World→Prop} (hK:zba w0 S0 n s' K):wpOp P ops Q i K a w:=by
 unfold cI at hc
 unfold wpOp
 cases ho:ops[i]? with
 | none=>simp [ho] at hc
 | some o=>
   simp only [ho] at hc ⊢
   split at hc
   · cases hc
   · rename_i y hy
     split at hc
     · rename_i hdd
       simp only [zp] at hdd
       have hd:∀ k,o.dst=some k→k < n:=by
        intro k hk;have:=hdd.1;rw [hk] at this;simpa using this
       have go:∀ l,yY D σ s o.dst l (y.ann sp i)=some s'→o.wp P a w K Q:=by
        intro l h
        have h2:yY D σ s o.dst l y=some s'∨(∃ f as,y = .call f as∧(yY D σ s o.dst l (.mark f as)=some s'∨yY D σ s o.dst l (.callO f as)=some s'∨(∃ p,yY D σ s o.dst l (.callG f p as)=some s')∨∃ bs es,yY D σ s o.dst l (.callT f as bs es)=some s'))∨(∃ h x z,y = .store h x z∧yY D σ s o.dst l (.storeK h x z)=some s')∨(∃ z len ps,y = .lit z len ps∧yY D σ s o.dst l (.litS z len ps)=some s')∨∃ n0 z z0,y = .mk n0 z z0∧yY D σ s o.dst l (.mk n0 z0 z0)=some s':=by
         unfold X.ann at h
         split at h
         · cases y with
           | app h x y=>exact .inl (ziK h)
           | call f as=>exact .inr (.inl ⟨f,as,rfl,.inl h⟩)
           | mk n0 z z0=>exact .inr (.inr (.inr (.inr ⟨n0,z,z0,rfl,h⟩)))
           | _=>exact .inl h
         · split at h
           · cases y with
             | call f as=>exact .inr (.inl ⟨f,as,rfl,.inr (.inl h)⟩)
             | _=>exact .inl h
           · split at h
             · cases y with
               | call f as=>exact .inr (.inl ⟨f,as,rfl,.inr (.inr (.inl ⟨0,h⟩))⟩)
               | _=>exact .inl h
             · split at h
               · cases y with
                 | call f as=>exact .inr (.inl ⟨f,as,rfl,.inr (.inr (.inl ⟨1,h⟩))⟩)
                 | _=>exact .inl h
               · split at h
                 · cases y with
                   | call f as=>exact .inr (.inl ⟨f,as,rfl,.inr (.inr (.inl ⟨2,h⟩))⟩)
                   | _=>exact .inl h
                 · split at h
                   · cases y with
                     | store g x z=>exact .inr (.inr (.inl ⟨g,x,z,rfl,h⟩))
                     | _=>exact .inl h
                   · split at h
                     · cases y with
                       | lit z len ps=>exact .inr (.inr (.inr (.inl ⟨z,len,ps,rfl,h⟩)))
                       | _=>exact .inl h
                     split at h
                     · exact .inl h
                     · rename_i b bs _
                       cases y with
                       | call f as=>
                         simp only [X.toT] at h
                         split at h
                         · exact .inr (.inl ⟨f,as,rfl,.inr (.inr (.inr ⟨b :: bs,_,h⟩))⟩)
                         · exact .inr (.inl ⟨f,as,rfl,.inr (.inr (.inr ⟨b :: bs,[],zho h⟩))⟩)
                       | v a=>exact .inl (zrw h)
                       | _=>exact .inl h
        rcases h2 with h2 | ⟨f,as,rfl,h2⟩ | ⟨g,x,z,rfl,h2⟩ | ⟨z,len,ps,rfl,h2⟩ | ⟨n0,z,z0,rfl,h2⟩
        case inr.inr.inr.inl=>exact zjj hF hy hI hd h2 hK
        case inr.inr.inr.inr=>exact zjx hy (.inr rfl) hI hd h2 hK
        case inr.inr.inl=>exact absurd h2 (by simp [yY])
        case inr.inl=>
         obtain ⟨fo,args,argTypes,e1,e2,e3⟩:=zkG hy
         rcases h2 with h2 | h2 | ⟨p,h2⟩ | ⟨bs,es,h2⟩
         · exact absurd h2 (by simp [yY])
         · exact zcC hF e1 e2 e3 hI hd (ob:=true) h2 hK
         · exact absurd h2 (by simp [yY])
         · exact zlc hF e1 e2 e3 hI hd h2 hK
        refine zcf hF hy hI hd h2 ?_ hK
        intro g u z e
        subst e
        simpa [X.isSt] using hdd.2
       split at hc
       · rename_i hg
         simp only [zn] at hc;subst hc
         have hw:Region.wanted o (yielded ops a.tmps)=true:=by simp [Region.wanted,hg]
         simp only [hw,z5]
         exact .inl (go _ hst)
       · rename_i j want hg
         split at hc
         · rename_i t ht
           simp only [zn] at hc;subst hc
           simp only [step] at hst
           split at hst
           · rename_i b hb
             have h1:=hI.told t
             rw [hb] at h1
             simp only [zR] at h1
             have h2:=zcZ h1
             have hy:yielded ops a.tmps j=some b:=by simp [yielded,ht,h2]
             have hw:Region.wanted o (yielded ops a.tmps)=(b == want):=by
              simp [Region.wanted,hg,hy]
             rw [hw]
             split at hst
             · rename_i e;subst e;simp;exact .inl (go _ hst)
             · rename_i e
               have:(b == want)=false:=by simp [e]
               simp only [this]
               simp only [zn] at hst;subst hst
               exact hK _ _ S τ (hI.putVal Ng (UM rfl) rfl o.dst hd)
           · rename_i hb
             have h1:=hI.told t
             rw [hb] at h1
             have hy:yielded ops a.tmps j=none:=by
              unfold yielded
              simp only [ht,ze]
              cases h2:a.tmps[t]? with
              | none=>rfl
              | some v=>
                have h3:a.eval (.tmp t)=v:=by simp [Act.eval,h2]
                rw [h3] at h1
                cases v <;> first | rfl | (simp [zR] at h1)
             have hw:Region.wanted o (yielded ops a.tmps)=false:=by
              simp [Region.wanted,hg,hy]
             simp only [hw]
             simp only [zn] at hst;subst hst
             exact hK _ _ S τ (hI.putVal Ng (UM rfl) rfl o.dst hd)
           · cases hst
         · cases hc
     · cases hc
theorem Qk {D:Den} {σ:Sig} (hF:zH P D σ) {ops:Array Oper} {lin sp:List Nat} {Q:Exit→Act→World→Prop}:∀ (is:List Nat) (xs:List I) (s:Nat→V) (a:Act) (w:World) (S:Nat→Prop) (τ:Tok→Blk),
    cIs P n ops lin sp is=some xs→Inv w0 S0 n s a w S τ→Wd D σ xs s=some s'→zba w0 S0 n s' (Q .normal)→wpOps P ops Q is a w
 | [],xs,s,a,w,S,τ,hc,hI,hst,hK=>by
   simp only [cIs,zn] at hc;subst hc
   simp only [Wd,zn] at hst;subst hst
   exact hK _ _ _ _ hI
 | i :: is,xs,s,a,w,S,τ,hc,hI,hst,hK=>by
   simp only [cIs] at hc
   split at hc
   · rename_i x xs' hx hxs
     simp only [zn] at hc;subst hc
     simp only [Wd] at hst
     split at hst
     · rename_i s1 hs1
       rw [wpOps_cons]
       exact zc4 hF hx hI hs1 fun a' w' S' τ' hI'=>Qk hF is xs' s1 a' w' S' τ' hxs hI' hst hK
     · cases hst
   · cases hc
end
theorem Mt {D:Den} {σ:Sig} {i:I}:∀ (pre post:List I) (s s':Nat→V),(∀ j∈pre,j.apart i=true)→Wd D σ (pre++i :: post) s=some s' →
    ∃ s1,step D σ s i=some s1∧Wd D σ (pre++post) s1=some s'
 | [],post,s,s',_,h=>by
   simp only [List.nil_append,Wd] at h
   split at h
   · rename_i s1 h1;exact ⟨s1,h1,h⟩
   · cases h
 | j :: pre,post,s,s',ha,h=>by
   simp only [XE,Wd] at h
   split at h
   · rename_i sj hj
     obtain ⟨t,h1,h2⟩:=Mt pre post sj s' (fun k hk=>ha k (by simp [hk])) h
     obtain ⟨u,h3,h4⟩:=zgR (ha j (by simp)) hj h1
     exact ⟨u,h3,by simp only [XE,Wd,h4];exact h2⟩
   · cases h
def zhH:List Oper→List (List Nat)→List (List Nat)
 | [],acc=>acc
 | o :: os,acc=>zhH os (acc++[((o.after.toList.filter (Region.binds .any)).flatMap fun e=>e.on :: acc.getD e.on []).eraseDups])
def zdJ (ops:Array Oper) (xs:List I):Bool:=
 let an:=zhH ops.toList []
 (List.range ops.size).all fun i=>
   (match ops[i]? with | some o=>o.after.toList.all fun e=>!Region.binds .any e || decide (e.on < i) | none=>true) &&
   (List.range i).all fun j=>(an.getD i []).contains j || (match xs[j]?,xs[i]? with | some y,some x=>y.apart x | _,_=>false)
def zid (ops:Array Oper) (listed:Array Bool):Prop:=
 ∀ (i:Nat) (o:Oper) (e:Edge),ops[i]?=some o→e∈o.after.toList→Region.binds .any e=true→listed.getD i false=true→listed.getD e.on false=true
theorem QB {ops:Array Oper} {listed:Array Bool} (hC:zid ops listed):∀ (os:List Oper) (acc:List (List Nat)),
    (∀ k,os[k]?=ops[acc.length + k]?)→(∀ i j,(∀ (o:Oper) (e:Edge),ops[i]?=some o→e∈o.after.toList→Region.binds .any e=true→listed.getD e.on false=true)→j∈acc.getD i []→listed.getD j false=true) →
    ∀ i j,(∀ (o:Oper) (e:Edge),ops[i]?=some o→e∈o.after.toList→Region.binds .any e=true→listed.getD e.on false=true)→j∈(zhH os acc).getD i []→listed.getD j false=true
 | [],acc,_,h=>h
 | o :: os,acc,hk,h=>by
   simp only [zhH]
   refine QB hC os _ ?_ ?_
   · intro k
     have:=hk (k + 1)
     simp only [List.getElem?_cons_succ] at this
     rw [this,uc]
     congr 1
     simp;omega
   · intro i j hi hj
     by_cases hlt:i < acc.length
     · refine h i j hi ?_
       simpa [zU,W3 hlt] using hj
     · by_cases he:i=acc.length
       · have ho:=hk 0
         simp only [List.getElem?_cons_zero,Nat.add_zero] at ho
         subst he
         simp only [zU,List.getElem?_append_right (xF _),Nat.sub_self,List.getElem?_cons_zero,y3,List.mem_eraseDups,XK,List.mem_filter,yf] at hj
         obtain ⟨e,⟨he1,he2⟩,rfl | hj⟩:=hj
         · exact hi o e ho.symm he1 he2
         · refine h e.on j ?_ (by simpa [zU] using hj)
           intro o' e' ho' he' hb'
           exact hC e.on o' e' ho' he' hb' (hi o e ho.symm he1 he2)
       · exfalso
         rw [zU,Z3 (by simp;omega)] at hj
         simp at hj
section
variable {P:Program} {w0:Ori} {S0:Nat→Prop} {n:Nat} {s s':Nat→V} {a:Act} {w:World} {S:Nat→Prop} {τ:Tok→Blk}
theorem zfE {ops:Array Oper} {lin sp:List Nat}:∀ (is:List Nat) (xs:List I) (k i:Nat),cIs P n ops lin sp is=some xs→is[k]?=some i→∃ x,xs[k]?=some x∧cI P n ops lin sp i=some x
 | [],_,k,i,_,h=>by simp at h
 | j :: is,xs,k,i,hc,h=>by
   simp only [cIs] at hc
   split at hc
   · rename_i x xs' hx hxs
     simp only [zn] at hc;subst hc
     cases k with
     | zero=>simp at h;subst h;exact ⟨x,by simp,hx⟩
     | succ k=>obtain ⟨y,h1,h2⟩:=zfE is xs' k i hxs (by simpa using h);exact ⟨y,by simpa using h1,h2⟩
   · cases hc
def W6 (m:Nat) (listed:Array Bool):List Nat:=(List.range m).filter fun i=>!listed.getD i true
theorem zj4 {m i:Nat} {listed:Array Bool} (hs:listed.size=m) (hi:i < m):W6 m (listed.setIfInBounds i true)=(W6 m listed).filter fun j=>decide (j≠i):=by
 unfold W6
 rw [List.filter_filter]
 refine List.filter_congr ?_
 intro j hj
 have hj:j < m:=by simpa using hj
 by_cases e:j=i
 · subst e
   simp [Yy,Array.getElem?_setIfInBounds_self,hs,hi]
 · simp [Yy,Array.getElem?_setIfInBounds_ne (Ne.symm e),e]
theorem ziu {i j:Nat} {listed:Array Bool} {d:Bool} (hi:i < listed.size):(listed.setIfInBounds i true).getD j d=if j=i then true else listed.getD j d:=by
 split
 · rename_i e;subst e
   simp [Yy,Array.getElem?_setIfInBounds_self,hi]
 · rename_i e
   simp [Yy,Array.getElem?_setIfInBounds_ne (Ne.symm e)]
theorem zgi {D:Den} {σ:Sig} (hF:zH P D σ) {ops:Array Oper} {lin sp:List Nat} {Q:Exit→Act→World→Prop} {xs:List I} (hc:cIs P n ops lin sp (List.range ops.size)=some xs) (hok:zdJ ops xs=true) :
    ∀ (fuel:Nat) (listed:Array Bool) (s:Nat→V) (a:Act) (w:World) (S:Nat→Prop) (τ:Tok→Blk),
    listed.size=ops.size→zid ops listed→(W6 ops.size listed).length≤fuel→Inv w0 S0 n s a w S τ→Wd D σ ((W6 ops.size listed).map fun i=>xs.getD i default) s=some s'→zba w0 S0 n s' (Q .normal) →
    wpAny P .any ops Q fuel listed a w:=by
 have hchk:∀ i o,ops[i]?=some o→(∀ e∈o.after.toList,Region.binds .any e=true→e.on < i)∧∀ j,j < i→((zhH ops.toList []).getD i []).contains j=true∨(xs.getD j default).apart (xs.getD i default)=true:=by
  intro i o ho
  have hi:i < ops.size:=by
   rcases Nat.lt_or_ge i ops.size with h | h
   · exact h
   · rw [Array.getElem?_eq_none h] at ho;cases ho
  simp only [zdJ,yN] at hok
  have h:=hok i (by simpa using hi)
  simp only [ho,zp,yN] at h
  refine ⟨?_,?_⟩
  · intro e he hb
    have:=h.1 e he
    simpa [hb] using this
  · intro j hj
    have:=h.2 j (by simpa using hj)
    simp only [y8] at this
    rcases this with h1 | h1
    · exact .inl h1
    · right
      split at h1
      · rename_i y x hy hx
        simp only [zU,hy,hx,y3];exact h1
      · cases h1
 have hge:∀ i,i < ops.size→∃ o,ops[i]?=some o:=fun i hi=>⟨ops[i],by simp [hi]⟩
 have hready:∀ (listed:Array Bool) i,i∈Region.ready .any ops listed↔i∈W6 ops.size listed∧∀ (o:Oper) (e:Edge),ops[i]?=some o→e∈o.after.toList→Region.binds .any e=true→listed.getD e.on false=true:=by
  intro listed i
  simp only [Region.ready,W6,List.mem_filter,zp,Y4]
  constructor
  · rintro ⟨h1,h2,h3⟩
    refine ⟨⟨h1,h2⟩,?_⟩
    intro o e ho he hb
    simp only [ho,yU,y3] at h3
    rw [← Array.all_toList,yN] at h3
    have:=h3 e he
    simpa [hb] using this
  · rintro ⟨⟨h1,h2⟩,h3⟩
    refine ⟨h1,h2,?_⟩
    obtain ⟨o,ho⟩:=hge i h1
    simp only [ho,yU,y3]
    rw [← Array.all_toList,yN]
    intro e he
    cases hb:Region.binds .any e with
    | false=>rfl
    | true=>simpa using h3 o e ho he hb
 have hsome:∀ (listed:Array Bool),listed.size=ops.size→Region.ready .any ops listed=[]→W6 ops.size listed=[]:=by
  intro listed hsz hr
  cases ht:W6 ops.size listed with
  | nil=>rfl
  | cons i rest=>
    exfalso
    have hi:i∈W6 ops.size listed:=by rw [ht];simp
    have hi2:i < ops.size:=by simp [W6] at hi;exact hi.1
    have:i∈Region.ready .any ops listed:=by
     rw [hready]
     refine ⟨hi,?_⟩
     intro o e ho he hb
     have hlt:=(hchk i o ho).1 e he hb
     cases hv:listed.getD e.on false with
     | true=>rfl
     | false=>
       exfalso
       have hm:e.on∈W6 ops.size listed:=by
        simp only [W6,List.mem_filter,Y4]
        refine ⟨by omega,?_⟩
        have:e.on < listed.size:=by omega
        simp only [Yy,Array.getElem?_eq_getElem this,y3] at hv ⊢
        simp [hv]
       have hsorted:List.Pairwise (· < ·) (W6 ops.size listed):=List.Pairwise.filter _ List.pairwise_lt_range
       rw [ht] at hm hsorted
       rcases yf.1 hm with h | h
       · omega
       · have:=(List.pairwise_cons.1 hsorted).1 _ h;omega
    rw [hr] at this;cases this
 intro fuel
 induction fuel with
 | zero=>
   intro listed s a w S τ hsz hC hle hI hst hK
   have ht:W6 ops.size listed=[]:=List.length_eq_zero_iff.1 (by omega)
   rw [ht] at hst
   simp only [List.map_nil,Wd,zn] at hst;subst hst
   refine ⟨?_,hK _ _ _ _ hI⟩
   cases hr:Region.ready .any ops listed with
   | nil=>rfl
   | cons i rest=>
     have:i∈W6 ops.size listed:=((hready listed i).1 (by rw [hr];simp)).1
     rw [ht] at this;cases this
 | succ fuel ih=>
   intro listed s a w S τ hsz hC hle hI hst hK
   refine ⟨?_,?_⟩
   · intro hr
     rw [hsome listed hsz hr] at hst
     simp only [List.map_nil,Wd,zn] at hst;subst hst
     exact hK _ _ _ _ hI
   · intro i hi
     obtain ⟨hit,hidep⟩:=(hready listed i).1 hi
     have hi2:i < ops.size:=by simp [W6] at hit;exact hit.1
     obtain ⟨o,ho⟩:=hge i hi2
     obtain ⟨pre,post,hpp⟩:=List.append_of_mem hit
     have hsorted:List.Pairwise (· < ·) (W6 ops.size listed):=List.Pairwise.filter _ List.pairwise_lt_range
     rw [hpp] at hst hsorted
     simp only [List.map_append,List.map_cons] at hst
     have hpre:∀ j∈pre,j < i:=fun j hj=>(List.pairwise_append.1 hsorted).2.2 j hj i (by simp)
     have hpost:∀ j∈post,i < j:=fun j hj=>(List.pairwise_cons.1 (List.pairwise_append.1 hsorted).2.1).1 j hj
     obtain ⟨s1,h1,h2⟩:=Mt (pre.map fun i=>xs.getD i default) (post.map fun i=>xs.getD i default) s s' (by
      intro J hJ
      obtain ⟨j,hj,rfl⟩:=yX.1 hJ
      rcases (hchk i o ho).2 j (hpre j hj) with h | h
      · exfalso
        have hlj:=QB hC ops.toList [] (by intro k;simp) (by intro i j _ hj;simp at hj) i j hidep (by simpa using h)
        have hjt:j∈W6 ops.size listed:=by rw [hpp];simp [hj]
        have hj2:j < ops.size:=by have:=hpre j hj;omega
        simp only [W6,List.mem_filter] at hjt
        have hb:j < listed.size:=by omega
        simp only [Yy,Array.getElem?_eq_getElem hb,y3] at hlj hjt
        simp [hlj] at hjt
      · exact h) hst
     obtain ⟨x,hx1,hx2⟩:=zfE (List.range ops.size) xs i i hc (by simp [hi2])
     have hx3:xs.getD i default=x:=by simp [zU,hx1]
     rw [hx3] at h1
     have htodo:W6 ops.size (listed.setIfInBounds i true)=pre++post:=by
      rw [zj4 hsz hi2,hpp,List.filter_append,List.filter_cons]
      simp only [ne_eq,not_true_eq_false,decide_false,yD,yb]
      rw [List.filter_eq_self.2 (by intro j hj;have:=hpre j hj;simp;omega),List.filter_eq_self.2 (by intro j hj;have:=hpost j hj;simp;omega)]
     refine zc4 hF hx2 hI h1 ?_
     intro a' w' S' τ' hI'
     refine ih (listed.setIfInBounds i true) s1 a' w' S' τ' (by simp [hsz]) ?_ ?_ hI' ?_ hK
     · intro k o' e ho' he hb hl
       have hisz:i < listed.size:=by omega
       rw [ziu hisz] at hl ⊢
       split
       · rfl
       · rename_i hne
         split at hl
         · rename_i hk
           subst hk
           exact hidep o' e ho' he hb
         · exact hC k o' e ho' he hb hl
     · rw [htodo]
       rw [hpp] at hle
       simp at hle ⊢;omega
     · rw [htodo,List.map_append];exact h2
end
section
variable {P:Program} {w0:Ori} {S0:Nat→Prop} {n:Nat} {s s':Nat→V} {a:Act} {w:World} {S:Nat→Prop} {τ:Tok→Blk}
def Tok.move (r x:Nat):Tok→Tok
 | .at r' p=>if r'=r then .at x p else .at r' p
 | .bx r'=>if r'=r then .bx x else .bx r'
 | k=>k
def JC (r x:Nat) (k:Tok):Option Tok:=if r=x then some k else if k.root?=some x then none else some (k.move r x)
theorem zgE (r x:Nat):MC (JC r x) τ (fun k=>if r=x then τ k else if k.root?=some x then τ (k.move x r) else τ k):=by
 by_cases hrx:r=x
 · subst hrx
   simp [MC,JC]
 · refine ⟨?_,?_,by simp [JC,hrx,Tok.root?,Tok.move]⟩
   · intro r' p k e
     simp only [JC,hrx,yb,Tok.root?,zn] at e
     split at e
     · cases e
     · rename_i hne
       simp only [zn] at e
       by_cases h:r'=r
       · subst h
         simp only [Tok.move,z5] at e;subst e
         simp [Tok.root?,Tok.move,hrx]
       · simp only [Tok.move,h,yb] at e;subst e
         simp [Tok.root?,hne,hrx]
   · intro r' k e
     simp only [JC,hrx,yb,Tok.root?,zn] at e
     split at e
     · cases e
     · rename_i hne
       simp only [zn] at e
       by_cases h:r'=r
       · subst h
         simp only [Tok.move,z5] at e;subst e
         simp [Tok.root?,Tok.move,hrx]
       · simp only [Tok.move,h,yb] at e;subst e
         simp [Tok.root?,hne,hrx]
theorem zgm {r x:Nat} {k:Tok}:(k.move r x).root?=some x∨(k.move r x).root?=k.root?:=by
 cases k <;> simp only [Tok.move] <;> (try split) <;> simp [Tok.root?]
theorem Inv.home (h:Inv w0 S0 n s a w S τ) {r x:Nat} (hx:Nat.ble zP x=false) (hl:∀ v,s x≠.lin v) (hg:s x≠.gone) :
    Inv w0 S0 n (WZ (JC r x) s) a w S (fun k=>if r=x then τ k else if k.root?=some x then τ (k.move x r) else τ k):=by
 have key:∀ k k',JC r x k=some k'→k'.root?=some x∨k'.root?=k.root?:=by
  intro k k' e
  unfold JC at e
  split at e
  · simp at e;subst e;exact .inr rfl
  · split at e
    · cases e
    · simp at e;subst e;exact zgm
 refine h.map (zgE r x) ?_ ?_ ?_
 · intro q v t k k' hq ht hk e
   have:q≠x:=by rintro rfl;exact hl _ hq
   rcases key k k' e with h1 | h1
   · rw [h1];simp;exact fun e=>this e.symm
   · rw [h1];exact h.lin q v t k hq ht hk
 · intro q t k k' hq hk e
   have:q≠x:=by rintro rfl;exact hg hq
   rcases key k k' e with h1 | h1
   · rw [h1];simp;exact fun e=>this e.symm
   · rw [h1];exact h.gone q t k hq hk
 · intro k k' e hp
   unfold JC at e
   split at e
   · simpa using e
   · split at e
     · cases e
     · simp only [zn] at e
       have key2:∀ r',(Tok.at r' []).pinned=true→r'≠x:=by
        rintro r' h1 rfl
        simp [Tok.pinned,hx] at h1
       cases k with
       | «at» r' p=>
         simp only [Tok.move] at e
         split at e
         · subst e;exact absurd rfl (key2 x hp)
         · exact e
       | bx r'=>
         simp only [Tok.move] at e
         split at e
         · subst e;exact absurd rfl (key2 x hp)
         · exact e
       | nl=>exact e
       | sh=>exact e
def LU (x:Nat) (l:List (List Nat×Tok)):Tok→Option Tok
 | .at r p=>match l.find? (fun y=>y.2 == .at r p) with
   | some y=>some (.at x y.1)
   | none=>if r=x then none else some (.at r p)
 | .bx r=>if r=x then none else some (.bx r)
 | k=>some k
def zkB (x:Nat) (l:List (List Nat×Tok)) (τ:Tok→Blk):Tok→Blk
 | .at r p=>if r=x then (match l.find? (fun y=>y.1 == p) with
   | some y=>τ y.2
   | none=>τ (.at r p)) else τ (.at r p)
 | k=>τ k
theorem QO:∀ {l:List (List Nat×Tok)},(l.map (·.1)).Nodup→∀ y∈l,l.find? (fun z=>z.1 == y.1)=some y
 | [],_,y,hy=>by cases hy
 | z :: l,hn,y,hy=>by
   simp only [List.map_cons,List.nodup_cons] at hn
   simp only [List.find?_cons]
   rcases yf.1 hy with rfl | hy
   · simp
   · have:z.1≠y.1:=fun e=>hn.1 (yX.2 ⟨y,hy,e.symm⟩)
     have hz:(z.1 == y.1)=false:=by simpa using this
     rw [hz]
     exact QO hn.2 y hy
theorem zdD {a b l:List Nat} (h1:a <+: l) (h2:b <+: l) (h:a.length=b.length):a=b:=by
 rw [List.prefix_iff_eq_take] at h1 h2
 rw [h1,h2,h]
mutual
theorem LF:∀ (v:V) (p:List Nat) (m:Nat) (l:List (List Nat×Tok)),V.own p m v=some l→(∀ x∈l,p <+: x.1)∧(l.map (·.1)).Nodup
 | .dead,p,m,l,h=>by simp [V.own] at h
 | .gone,p,m,l,h=>by simp [V.own] at h
 | .fn ..,p,m,l,h=>by simp [V.own] at h
 | .ref ..,p,m,l,h=>by simp [V.own] at h
 | .int ..,p,m,l,h=>by simp [V.own] at h;subst h;simp
 | .bool ..,p,m,l,h=>by simp [V.own] at h;subst h;simp
 | .lin v,p,m,l,h=>LF v p m l (by simpa [V.own] using h)
 | .agg vs,p,m,l,h=>by
   have:=U7 vs p m 0 l (by simpa [V.own] using h)
   exact ⟨fun x hx=>by obtain ⟨j,_,hj⟩:=this.1 x hx;exact (List.prefix_append _ _).trans hj,this.2⟩
 | .tup vs,p,m,l,h=>by
   have:=U7 vs p m 0 l (by simpa [V.own] using h)
   exact ⟨fun x hx=>by obtain ⟨j,_,hj⟩:=this.1 x hx;exact (List.prefix_append _ _).trans hj,this.2⟩
 | .sl t g lo xs,p,0,l,h=>by simp [V.own] at h;subst h;simp
 | .sl t g lo xs,p,m + 1,l,h=>by
   cases t with
   | sh=>simp [V.own] at h
   | bx r=>simp [V.own] at h
   | nl=>simp [V.own] at h;subst h;simp
   | «at» r q=>
     simp only [V.own] at h
     split at h
     · by_cases hf:g.flat=true
       · simp only [hf,z5,zn] at h
         subst h
         simp
       · simp only [hf,yD,yb,ye] at h
         obtain ⟨l',h',rfl⟩:=h
         have:=U7 xs p m 0 l' h'
         refine ⟨?_,?_⟩
         · intro x hx
           rcases yf.1 hx with rfl | hx
           · exact List.prefix_refl _
           · obtain ⟨j,_,hj⟩:=this.1 x hx;exact (List.prefix_append _ _).trans hj
         · simp only [List.map_cons,List.nodup_cons]
           refine ⟨?_,this.2⟩
           intro hm
           obtain ⟨x,hx,e⟩:=yX.1 hm
           obtain ⟨j,_,hj⟩:=this.1 x hx
           have:=hj.length_le
           rw [e] at this
           simp at this
           omega
     · cases h
theorem U7:∀ (vs:List V) (p:List Nat) (m k:Nat) (l:List (List Nat×Tok)),V.owns p m k vs=some l→(∀ x∈l,∃ j,k≤j∧(p++[j]) <+: x.1)∧(l.map (·.1)).Nodup
 | [],p,m,k,l,h=>by simp [V.owns] at h;subst h;simp
 | v :: vs,p,m,k,l,h=>by
   simp only [V.owns] at h
   split at h
   · rename_i la lb h1 h2
     simp only [zn] at h
     subst h
     have ha:=LF v (p++[k]) m la h1
     have hb:=U7 vs p m (k + 1) lb h2
     refine ⟨?_,?_⟩
     · intro x hx
       rcases zO.1 hx with hx | hx
       · exact ⟨k,xF _,ha.1 x hx⟩
       · obtain ⟨j,hj,h3⟩:=hb.1 x hx;exact ⟨j,by omega,h3⟩
     · rw [List.map_append,List.nodup_append]
       refine ⟨ha.2,hb.2,?_⟩
       intro a ha' b hb' e
       obtain ⟨x,hx,rfl⟩:=yX.1 ha'
       obtain ⟨y,hy,rfl⟩:=yX.1 hb'
       obtain ⟨j,hj,h3⟩:=hb.1 y hy
       have h4:=ha.1 x hx
       rw [e] at h4
       have:=zdD h4 h3 (by simp)
       simp at this
       omega
   · cases h
end
theorem zjh {x:Nat} {l:List (List Nat×Tok)} (hn:(l.map (·.1)).Nodup):MC (LU x l) τ (zkB x l τ):=by
 refine ⟨?_,?_,rfl⟩
 · intro r p k e
   simp only [LU] at e
   split at e
   · rename_i y hy
     simp only [zn] at e;subst e
     have hm:=List.mem_of_find?_eq_some hy
     have h2:y.2 = .at r p:=by simpa using List.find?_some hy
     refine ⟨?_,_,_,rfl⟩
     simp only [zkB,z5]
     rw [QO hn y hm]
     simp only [h2]
   · split at e
     · cases e
     · rename_i hr
       simp only [zn] at e;subst e
       refine ⟨?_,_,_,rfl⟩
       simp only [zkB,hr,yb]
 · intro r k e
   simp only [LU] at e
   split at e
   · cases e
   · simp only [zn] at e;subst e
     exact ⟨rfl,_,rfl⟩
theorem Inv.can (h:Inv w0 S0 n s a w S τ) {x:Nat} {l:List (List Nat×Tok)} (hl0:(l.map (·.1)).Nodup) (hx:Nat.ble zP x=false) (hl:∀ v,s x≠.lin v) (hg:s x≠.gone) :
    Inv w0 S0 n (WZ (LU x l) s) a w S (zkB x l τ):=by
 have key:∀ k k',LU x l k=some k'→k'.root?=some x∨k'=k:=by
  intro k k' e
  cases k with
  | «at» r p=>
    simp only [LU] at e
    split at e
    · simp only [zn] at e;subst e;exact .inl rfl
    · split at e
      · cases e
      · simp only [zn] at e;exact .inr e.symm
  | bx r=>
    simp only [LU] at e
    split at e
    · cases e
    · simp only [zn] at e;exact .inr e.symm
  | nl=>simp only [LU,zn] at e;exact .inr e.symm
  | sh=>simp only [LU,zn] at e;exact .inr e.symm
 refine h.map (zjh hl0) ?_ ?_ ?_
 · intro q v t k k' hq ht hk e
   have:q≠x:=by rintro rfl;exact hl _ hq
   rcases key k k' e with h1 | rfl
   · rw [h1];simp;exact fun e=>this e.symm
   · exact h.lin q v t _ hq ht hk
 · intro q t k k' hq hk e
   have:q≠x:=by rintro rfl;exact hg hq
   rcases key k k' e with h1 | rfl
   · rw [h1];simp;exact fun e=>this e.symm
   · exact h.gone q t _ hq hk
 · intro k k' e hp
   rcases key k k' e with h1 | rfl
   · obtain ⟨r,e1,e2⟩:=JJ hp
     rw [h1] at e1
     simp only [zn] at e1
     subst e1
     rw [Nat.ble_eq_true_of_le e2] at hx;cases hx
   · rfl
end
inductive E where
 | home (r x:Nat)
 | frz (x:Nat)
 | clr (pk:List Nat)
 | drp (x:Nat)
 | can (x:Nat)
 | ren (x q:Nat) (p:List Nat)
 deriving Repr,Inhabited
def KD (s:Nat→V):E→Option (Nat→V)
 | .home r x=>if Nat.ble zP x then none else match s x with
   | .lin _ | .gone=>none
   | _=>some (WZ (JC r x) s)
 | .frz x=>some fun t=>V.frz (s x).toks (s t)
 | .clr pk=>some (clear pk s)
 | .drp x=>some (upd s x .dead)
 | .can x=>if Nat.ble zP x then none else match s x with
   | .lin _ | .gone=>none
   | _=>(V.own [] 9 (s x)).map fun l=>WZ (LU x l) s
 | .ren x q p=>if Nat.ble zP x then none else match s x with
   | .lin _ | .gone=>none
   | _=>some (WZ (LU x [([],.at q p)]) s)
def JB:List E→(Nat→V)→Option (Nat→V)
 | [],s=>some s
 | e :: es,s=>match KD s e with
   | some s'=>JB es s'
   | none=>none
theorem zj1 {w0:Ori} {S0:Nat→Prop} {n:Nat} {s s':Nat→V} {a:Act} {w:World} {S:Nat→Prop} {τ:Tok→Blk} {e:E} (h:Inv w0 S0 n s a w S τ) (he:KD s e=some s'):∃ S' τ',Inv w0 S0 n s' a w S' τ':=by
 cases e with
 | home r x=>
   simp only [KD] at he
   split at he
   · cases he
   · rename_i hx
     split at he
     · cases he
     · cases he
     · rename_i h1 h2
       simp only [zn] at he;subst he
       exact ⟨_,_,h.home (by cases hb:Nat.ble zP x with | true=>exact absurd hb hx | false=>rfl) h1 h2⟩
 | frz x=>
   simp only [KD,zn] at he;subst he
   exact ⟨_,_,h.frz fun k hk=>⟨x,hk⟩⟩
 | clr pk=>
   simp only [KD,zn] at he;subst he
   exact ⟨_,_,h.clear pk⟩
 | drp x=>
   simp only [KD,zn] at he;subst he
   exact ⟨_,_,h.drop x⟩
 | can x=>
   simp only [KD] at he
   split at he
   · cases he
   · rename_i hx
     split at he
     · cases he
     · cases he
     · rename_i h1 h2
       simp only [ye] at he
       obtain ⟨l,hl,rfl⟩:=he
       exact ⟨_,_,h.can (LF _ _ _ _ hl).2 (by cases hb:Nat.ble zP x with | true=>exact absurd hb hx | false=>rfl) h1 h2⟩
 | ren x q p=>
   simp only [KD] at he
   split at he
   · cases he
   · rename_i hx
     split at he
     · cases he
     · cases he
     · rename_i h1 h2
       simp only [zn] at he;subst he
       exact ⟨_,_,h.can (by simp) (by cases hb:Nat.ble zP x with | true=>exact absurd hb hx | false=>rfl) h1 h2⟩
theorem L3 {w0:Ori} {S0:Nat→Prop} {n:Nat} {a:Act} {w:World}:∀ (es:List E) {s s':Nat→V} {S:Nat→Prop} {τ:Tok→Blk},Inv w0 S0 n s a w S τ→JB es s=some s'→∃ S' τ',Inv w0 S0 n s' a w S' τ'
 | [],s,s',S,τ,h,he=>by simp only [JB,zn] at he;subst he;exact ⟨_,_,h⟩
 | e :: es,s,s',S,τ,h,he=>by
   simp only [JB] at he
   split at he
   · rename_i s1 h1
     obtain ⟨S1,τ1,hI⟩:=zj1 h h1
     exact L3 es hI he
   · cases he
structure An where
 id:Nat
 pre:List E:=[]
 lin:List Nat:=[]
 sp:List Nat:=[]
 ep:List E:=[]
 deriving Repr
inductive AC where
 | skip
 | reg (pre:List E) (is:List I) (ep:List E)
 | seq (a b:AC)
 | cond (c:O) (a b:AC)
 | block (id:Nat) (a:AC)
 | loop (a:AC)
 | exit (id:Nat)
 | ret
 deriving Repr,Inhabited
def cC (P:Program) (n:Nat) (an:List An):Code→Option AC
 | .skip=>some .skip
 | .region id ops draw=>
   let x:=(an.find? fun x=>x.id == id).getD { id:=id }
   match cIs P n ops x.lin x.sp (List.range ops.size) with
   | some is=>if !draw || zdJ ops is then some (.reg x.pre is x.ep) else some (.reg [] [⟨none,none,false,.v (.un .not (.k .dead))⟩] [])
   | none=>some (.reg [] [⟨none,none,false,.v (.un .not (.k .dead))⟩] [])
 | .seq a b=>match cC P n an a,cC P n an b with
   | some a,some b=>some (.seq a b)
   | _,_=>none
 | .cond c a b=>match cO .s c,cC P n an a,cC P n an b with
   | some c,some a,some b=>some (.cond c a b)
   | _,_,_=>none
 | .block id a=>(cC P n an a).map (.block id)
 | .loop a=>(cC P n an a).map .loop
 | .exit id=>some (.exit id)
 | .ret=>some .ret
 | _=>some (.cond (.k .dead) .skip .skip)
inductive Ex where
 | nrm
 | exit (id:Nat)
 | ret
 deriving DecidableEq,Repr
def Ex.up:Ex→Exit
 | .nrm=>.normal
 | .exit id=>.exit id
 | .ret=>.ret
abbrev Yn:=Ex→(Nat→V)→Prop
def Yn.thn (K:(Nat→V)→Prop) (Q:Yn):Yn:=fun e s=>match e with
 | .nrm=>K s
 | e=>Q e s
def Yn.blk (id:Nat) (Q:Yn):Yn:=fun e s=>match e with
 | .exit i=>if i=id then Q .nrm s else Q (.exit i) s
 | e=>Q e s
def rounds (f:Yn→(Nat→V)→Prop) (Q:Yn):Nat→(Nat→V)→Prop
 | 0,_=>False
 | k + 1,s=>f (Yn.thn (rounds f Q k) Q) s
def clr (pk:List Nat) (s:Nat→V):Nat→V:=match pk with
 | []=>s
 | pk=>clear pk s
def AC.wp (D:Den) (σ:Sig):AC→Yn→(Nat→V)→Prop
 | .skip,Q,s=>Q .nrm s
 | .reg pre is ep,Q,s=>match JB pre s with
   | some s0=>(match Wd D σ is s0 with
     | some s1=>(match JB ep s1 with
       | some s2=>Q .nrm s2
       | none=>False)
     | none=>False)
   | none=>False
 | .seq a b,Q,s=>a.wp D σ (Yn.thn (b.wp D σ Q) Q) s
 | .cond c a b,Q,s=>match c.ev s with
   | .bool t=>if t then a.wp D σ Q s else b.wp D σ Q s
   | _=>False
 | .block id a,Q,s=>a.wp D σ (Yn.blk id Q) s
 | .loop a,Q,s=>∃ k,rounds (a.wp D σ) Q k s
 | .exit id,Q,s=>Q (.exit id) s
 | .ret,Q,s=>Q .ret s
section
variable {P:Program} {w0:Ori} {S0:Nat→Prop} {n:Nat} {s s':Nat→V} {a:Act} {w:World} {S:Nat→Prop} {τ:Tok→Blk}
def zwh (w0:Ori) (S0:Nat→Prop) (n:Nat) (Q:Yn) (Q':Exit→Act→World→Prop):Prop:=∀ e s a w S τ,Q e s→Inv w0 S0 n s a w S τ→Q' e.up a w
theorem zdd {D:Den} {σ:Sig} {Q:Yn} (h:AC.wp D σ (.reg [] [⟨none,none,false,.v (.un .not (.k .dead))⟩] []) Q s):False:=h
theorem zcd {D:Den} {σ:Sig} (hF:zH P D σ) (hm:P.follows .mixedOrders=true) {an:List An}:∀ (c:Code) (A:AC) (Q:Yn) (Q':Exit→Act→World→Prop) (s:Nat→V) (a:Act) (w:World) (S:Nat→Prop) (τ:Tok→Blk),
    cC P n an c=some A→Inv w0 S0 n s a w S τ→A.wp D σ Q s→zwh w0 S0 n Q Q'→c.wp P Q' a w:=by
 intro c
 induction c with
 | skip=>
   intro A Q Q' s a w S τ hc hI h hQ
   simp only [cC,zn] at hc;subst hc
   exact wp_skip (hQ _ _ _ _ _ _ h hI)
 | region id ops draw=>
   intro A Q Q' s a w S τ hc hI h hQ
   simp only [cC] at hc
   split at hc
   · rename_i is his
     split at hc
     · rename_i hd
       simp only [zn] at hc;subst hc
       simp only [AC.wp] at h
       split at h
       case h_2=>exact h.elim
       rename_i s0 hs0
       obtain ⟨S0',τ0,hI⟩:=L3 _ hI hs0
       split at h
       · rename_i s1 hs1
         split at h
         · rename_i s2 hs2
           have hgo:zba w0 S0 n s1 (Q' .normal):=by
            intro a' w' S' τ' hI'
            obtain ⟨S2,τ2,hI2⟩:=L3 _ hI' hs2
            exact hQ .nrm _ _ _ _ _ h hI2
           cases draw with
           | false=>
             exact wp_region (Qk hF _ _ _ _ _ _ _ his hI hs1 hgo)
           | true=>
             simp only [yS,ZO] at hd
             refine wp_region_any hm ?_
             have hI3:Inv w0 S0 n s0 a { w with drawn:=w.drawn + 1 } S0' τ0:=
              hI.same_heap rfl (J4 hI.below _)
             have hxs:∀ (xs:List I),cIs P n ops ((an.find? fun x=>x.id == id).getD { id:=id }).lin ((an.find? fun x=>x.id == id).getD { id:=id }).sp (List.range ops.size)=some xs→(List.range ops.size).map (fun i=>xs.getD i default)=xs:=by
              intro xs hx
              have hlen:∀ (is:List Nat) (xs:List I) lin sp,cIs P n ops lin sp is=some xs→xs.length=is.length:=by
               intro is
               induction is with
               | nil=>intro xs lin sp h;simp [cIs] at h;subst h;rfl
               | cons i is ih=>
                 intro xs lin sp h
                 simp only [cIs] at h
                 split at h
                 · rename_i x xs' _ h2
                   simp only [zn] at h;subst h
                   simp [ih _ _ _ h2]
                 · cases h
              have:=hlen _ _ _ _ hx
              simp only [List.length_range] at this
              apply List.ext_getElem
              · simp [this]
              · intro k h1 h2
                simp [zU,h2]
             refine zgi hF his hd ops.size _ _ _ _ S0' τ0 (by simp) ?_ ?_ hI3 ?_ hgo
             · intro i o e ho he hb hl
               simp only [Yy] at hl
               rw [Array.getElem?_replicate] at hl
               split at hl <;> simp at hl
             · exact Zf (List.length_filter_le _ _) (by simp)
             · have:W6 ops.size (Array.replicate ops.size false)=List.range ops.size:=by
                unfold W6
                refine List.filter_eq_self.2 ?_
                intro i hi
                have hi:i < ops.size:=by simpa using hi
                simp [Yy,Array.getElem?_replicate,hi]
               rw [this,hxs _ his]
               exact hs1
         · exact h.elim
       · exact h.elim
     · simp only [zn] at hc;subst hc
       exact (zdd h).elim
   · simp only [zn] at hc;subst hc
     exact (zdd h).elim
 | seq x y ihx ihy=>
   intro A Q Q' s a w S τ hc hI h hQ
   simp only [cC] at hc
   split at hc
   · rename_i A1 A2 h1 h2
     simp only [zn] at hc;subst hc
     refine wp_seq (ihx A1 _ _ s a w S τ h1 hI h ?_)
     intro e s' a' w' S' τ' hq hI'
     cases e with
     | nrm=>exact ihy A2 Q Q' s' a' w' S' τ' h2 hI' hq hQ
     | exit id=>exact hQ (.exit id) _ _ _ _ _ hq hI'
     | ret=>exact hQ .ret _ _ _ _ _ hq hI'
   · cases hc
 | cond c x y ihx ihy=>
   intro A Q Q' s a w S τ hc hI h hQ
   simp only [cC] at hc
   split at hc
   · rename_i c' A1 A2 h0 h1 h2
     simp only [zn] at hc;subst hc
     simp only [AC.wp] at h
     split at h
     · rename_i t ht
       have hr:=M3 h0 hI.told
       rw [ht] at hr
       simp only [zR] at hr
       refine wp_cond hr ?_
       cases t with
       | true=>exact ihx A1 Q Q' s a w S τ h1 hI h hQ
       | false=>exact ihy A2 Q Q' s a w S τ h2 hI h hQ
     · exact h.elim
   · cases hc
 | block id x ih=>
   intro A Q Q' s a w S τ hc hI h hQ
   simp only [cC,ye] at hc
   obtain ⟨A1,h1,rfl⟩:=hc
   refine wp_block (ih A1 _ _ s a w S τ h1 hI h ?_)
   intro e s' a' w' S' τ' hq hI'
   cases e with
   | nrm=>exact hQ .nrm _ _ _ _ _ hq hI'
   | ret=>exact hQ .ret _ _ _ _ _ hq hI'
   | exit i=>
     simp only [Yn.blk,Ex.up,Exit.inBlock] at hq ⊢
     split
     · rename_i e;rw [if_pos e] at hq;exact hQ .nrm _ _ _ _ _ hq hI'
     · rename_i e;rw [zy e] at hq;exact hQ (.exit i) _ _ _ _ _ hq hI'
 | loop x ih=>
   intro A Q Q' s a w S τ hc hI h hQ
   simp only [cC,ye] at hc
   obtain ⟨A1,h1,rfl⟩:=hc
   obtain ⟨k,hk⟩:=h
   refine wp_loop_rounds k ?_
   have key:∀ k s a w S τ,Inv w0 S0 n s a w S τ→rounds (A1.wp D σ) Q k s→Code.rounds P x Q' k a w:=by
    intro k
    induction k with
    | zero=>intro s a w S τ _ h;exact h.elim
    | succ k ihk=>
      intro s a w S τ hI h
      rw [rounds_succ]
      refine ih A1 _ _ s a w S τ h1 hI h ?_
      intro e s' a' w' S' τ' hq hI'
      cases e with
      | nrm=>exact ihk s' a' w' S' τ' hI' hq
      | exit id=>exact hQ (.exit id) _ _ _ _ _ hq hI'
      | ret=>exact hQ .ret _ _ _ _ _ hq hI'
   exact key k s a w S τ hI hk
 | exit id=>
   intro A Q Q' s a w S τ hc hI h hQ
   simp only [cC,zn] at hc;subst hc
   exact wp_exit (hQ (.exit id) _ _ _ _ _ h hI)
 | ret=>
   intro A Q Q' s a w S τ hc hI h hQ
   simp only [cC,zn] at hc;subst hc
   exact wp_ret (hQ .ret _ _ _ _ _ h hI)
 | _=>
   intro A Q Q' s a w S τ hc hI h
   simp only [cC,zn] at hc;subst hc
   exact h.elim
end
def JZ (P:Program) (s:Nat→V):ResultVar→Option V
 | .tmp t=>some (s t)
 | .cell a t=>match shT P 6 t,s a with
   | some h,.ref _ _ _ c=>if c.shape.beq h && (Lb P t == some h.isAg && vD P t == some h.size) then some c else none
   | _,_=>none
def N9 (P:Program) (s:Nat→V):List ResultVar→Option V
 | []=>some (.tup [])
 | [x]=>JZ P s x
 | [x,y]=>match JZ P s x,JZ P s y with
   | some u,some v=>some (.tup [u,v])
   | _,_=>none
 | [x,y,z]=>match JZ P s x,JZ P s y,JZ P s z with
   | some u,some v,some t=>some (.tup [u,v,t])
   | _,_,_=>none
 | _=>none
def fin (m:Nat) (al:Bool) (v:V):Option V:=
 match V.own [] m v with
 | some l=>if decide (l.map (·.2)).Nodup && (l.all fun x=>!(V.low m v).contains x.2) && (al || v.mine) then some (V.ret m v) else none
 | none=>none
def init (args:List V):Nat→V:=fun t=>args.getD t .dead
section
variable {P:Program} {w0:Ori} {S0:Nat→Prop} {n:Nat} {s s':Nat→V} {a:Act} {w:World} {S:Nat→Prop} {τ:Tok→Blk}
def zly (P:Program) (w:World) (tmps:Array Value) (rv:ResultVar) (c:Value):Prop:=
 match rv with
 | .tmp t=>c=tmps.getD t undef
 | .cell a t=>∃ ad,tmps.getD a undef = .pointer (some ad)∧(loadVar t ad).run P w = .ok c w
theorem UP {rv:ResultVar} {v:V} (h:JZ P s rv=some v) (hI:Inv w0 S0 n s a w S τ):∃ c,zly P w a.tmps rv c∧zR w S τ v c∧∀ k∈v.toks,∃ t,k∈(s t).toks:=by
 cases rv with
 | tmp t=>
   simp only [JZ,zn] at h;subst h
   exact ⟨_,rfl,hI.told t,fun k hk=>⟨t,hk⟩⟩
 | cell x t=>
   simp only [JZ] at h
   split at h
   · rename_i g tk i q c hg hs
     split at h
     · rename_i hcond
       simp only [zp,ym] at hcond
       simp only [zn] at h;subst h
       have hr:=hI.told x
       rw [hs] at hr
       have hsh:=Sh.beq_eq _ _ hcond.1
       obtain ⟨b,off,arr,ty,fz,e,hw,hp,hle,h0,hrel⟩:=Z5 hr
       obtain ⟨r,h1,h2⟩:=Mr (P:=P) (t:=t) hw hle hrel (by rw [hsh];exact hcond.2.1) (by rw [hsh];exact hcond.2.2)
       refine ⟨r,⟨_,e,h1⟩,h2,?_⟩
       intro k hk
       refine ⟨x,?_⟩
       rw [hs]
       cases tk with
       | sh=>rw [h0 rfl] at hk;cases hk
       | nl=>simpa [V.toks] using hk
       | _=>simp [V.toks,hk]
     · cases h
   · cases h
theorem Mj:∀ (fn:Func) (rs:List ResultVar) (v:V),fn.results.toList=rs→N9 P s rs=some v→Inv w0 S0 n s a w S τ →
    ∃ c,(results fn a.tmps).run P w = .ok c w∧zR w S τ v c∧∀ k∈v.toks,∃ t,k∈(s t).toks:=by
 intro fn rs v hrs h hI
 have hres:fn.results=rs.toArray:=by rw [← hrs]
 unfold N9 at h
 split at h
 · simp only [zn] at h;subst h
   exact ⟨.tuple #[],by simp [results,hres],⟨#[],rfl,by simp [yB]⟩,by simp [V.toks,V.tokss]⟩
 · rename_i x
   obtain ⟨c,h1,h2,h3⟩:=UP h hI
   refine ⟨c,?_,h2,h3⟩
   cases x with
   | tmp t=>simp only [zly] at h1;subst h1;simp [results,hres]
   | cell y t=>obtain ⟨ad,e,h1⟩:=h1;simp [results,hres] at e ⊢;simp [e,h1,asAddr]
 · rename_i x y
   split at h
   · rename_i u u' hu hu'
     simp only [zn] at h;subst h
     obtain ⟨c,h1,h2,h3⟩:=UP hu hI
     obtain ⟨c',h1',h2',h3'⟩:=UP hu' hI
     refine ⟨.tuple #[c,c'],?_,⟨_,rfl,by simp only [yB];exact ⟨c,[c'],rfl,h2,c',[],rfl,h2',rfl⟩⟩,?_⟩
     · cases x <;> cases y <;> simp only [zly] at h1 h1' <;> (try obtain ⟨ad,e,h1⟩:=h1) <;> (try obtain ⟨ad',e',h1'⟩:=h1') <;> (try subst h1) <;> (try subst h1') <;> simp_all [results,asAddr]
     · intro k hk
       simp only [V.toks,V.tokss,xy,zO] at hk
       exact hk.elim (h3 k) (h3' k)
   · cases h
 · rename_i x y z
   split at h
   · rename_i u u' u'' hu hu' hu''
     simp only [zn] at h;subst h
     obtain ⟨c,h1,h2,h3⟩:=UP hu hI
     obtain ⟨c',h1',h2',h3'⟩:=UP hu' hI
     obtain ⟨c'',h1'',h2'',h3''⟩:=UP hu'' hI
     refine ⟨.tuple #[c,c',c''],?_,⟨_,rfl,by simp only [yB];exact ⟨c,[c',c''],rfl,h2,c',[c''],rfl,h2',c'',[],rfl,h2'',rfl⟩⟩,?_⟩
     · cases x <;> cases y <;> cases z <;> simp only [zly] at h1 h1' h1'' <;> (try obtain ⟨ad,e,h1⟩:=h1) <;> (try obtain ⟨ad',e',h1'⟩:=h1') <;> (try obtain ⟨ad'',e'',h1''⟩:=h1'') <;> (try subst h1) <;> (try subst h1') <;> (try subst h1'') <;> simp_all [results,asAddr]
     · intro k hk
       simp only [V.toks,V.tokss,xy,zO] at hk
       exact hk.elim (h3 k) fun hk=>hk.elim (h3' k) (h3'' k)
   · cases h
 · cases h
theorem KZ:∀ (us:List V) (cs:List Value) (t:Nat),yB w S τ us cs→zR w S τ (us.getD t .dead) (cs.getD t undef)
 | [],cs,t,h=>by simp [zR]
 | u :: us,cs,t,h=>by
   simp only [yB] at h
   obtain ⟨c,cs',rfl,h1,h2⟩:=h
   cases t with
   | zero=>simpa using h1
   | succ t=>simpa using KZ us cs' t h2
theorem UK:∀ (us:List V) (cs:List Value),yB w S τ us cs→cs.length=us.length
 | [],cs,h=>by simp only [yB] at h;subst h;rfl
 | u :: us,cs,h=>by
   simp only [yB] at h
   obtain ⟨c,cs',rfl,_,h2⟩:=h
   simp [UK us cs' h2]
theorem XN:∀ (us:List V) (t:Nat),V.tokss us=[]→(us.getD t .dead).toks=[]
 | [],t,_=>by simp [V.toks]
 | u :: us,t,h=>by
   simp only [V.tokss,List.append_eq_nil_iff] at h
   cases t with
   | zero=>simpa using h.1
   | succ t=>simpa using XN us t h.2
mutual
theorem NQ:∀ (v:V) (p:List Nat) (m:Nat) (l:List (List Nat×Tok)),V.own p m v=some l→∀ k∈V.low m v,k∈v.toks
 | .sl t h lo xs,p,0,l,ho,k,hk=>by simpa [V.low] using hk
 | .sl t h lo xs,p,m + 1,l,ho,k,hk=>by
   cases t with
   | sh=>simp [V.own] at ho
   | bx r=>simp [V.own] at ho
   | nl=>simp [V.low] at hk
   | «at» r q=>
     simp only [V.low] at hk
     split at hk
     · cases hk
     · rename_i hf
       simp only [V.own,hf] at ho
       split at ho
       · simp only [yD,yb,ye] at ho
         obtain ⟨l',h',_⟩:=ho
         have:=Kk xs p m 0 l' h' k hk
         simp [V.toks,hf,this]
       · cases ho
 | .agg vs,p,m,l,ho,k,hk=>by simpa [V.toks] using Kk vs p m 0 l (by simpa [V.own] using ho) k (by simpa [V.low] using hk)
 | .tup vs,p,m,l,ho,k,hk=>by simpa [V.toks] using Kk vs p m 0 l (by simpa [V.own] using ho) k (by simpa [V.low] using hk)
 | .lin v,p,m,l,ho,k,hk=>by simpa [V.toks] using NQ v p m l (by simpa [V.own] using ho) k (by simpa [V.low] using hk)
 | .dead,p,m,l,ho,k,hk | .gone,p,m,l,ho,k,hk | .int ..,p,m,l,ho,k,hk | .bool ..,p,m,l,ho,k,hk | .ref ..,p,m,l,ho,k,hk | .fn ..,p,m,l,ho,k,hk=>by simpa [V.low] using hk
theorem Kk:∀ (vs:List V) (p:List Nat) (m j:Nat) (l:List (List Nat×Tok)),V.owns p m j vs=some l→∀ k∈V.lows m vs,k∈V.tokss vs
 | [],p,m,j,l,ho,k,hk=>by simp [V.lows] at hk
 | v :: vs,p,m,j,l,ho,k,hk=>by
   simp only [V.owns] at ho
   split at ho
   · rename_i la lb h1 h2
     simp only [V.lows,V.tokss,zO] at hk ⊢
     exact hk.imp (NQ v _ m la h1 k) (Kk vs p m (j + 1) lb h2 k)
   · cases ho
end
def ori (w:World) (τ:Tok→Blk):Ori:=⟨w,fun b=>w.heap.size≤b,τ,fun _ h=>h⟩
theorem zjg {args:List V} {vals:Array Value} {nt:Nat} (hS:∀ b,S b→b < w.heap.size) (hr:yB w S τ args vals.toList) (h0:V.tokss args=[]) (hn:args.length≤nt) (hnt:nt≤zP) :
    Inv (ori w τ) S nt (init args) { tmps:=vals++Array.replicate (nt - vals.size) undef,defers:=[] } w S τ where
 told t:=by
  have hl:=UK _ _ hr
  simp only [Array.length_toList] at hl
  have:=KZ args vals.toList t hr
  by_cases ht:t < vals.size
  · simp only [init,Act.eval,Yy,Array.getElem?_append_left ht]
    simpa [zU] using this
  · have:init args t = .dead:=by
     simp only [init]
     rw [zU,Z3 (by omega)];rfl
    rw [this];simp [zR]
 size:=by
  have hl:=UK _ _ hr
  simp at hl ⊢;omega
 defers:=rfl
 own t k hk:=by rw [init,XN args t h0] at hk;cases hk
 inj t t' k k' hk:=by rw [init,XN args t h0] at hk;cases hk
 sbd:=hS
 sfr b hb:=.inl hb
 s0 b hb:=hb
 below:=Bel.refl _ _
 lin r v t k _ _ hk:=by rw [init,XN args t h0] at hk;cases hk
 gone r t k _ hk:=by rw [init,XN args t h0] at hk;cases hk
 small:=hnt
 pin t k hk:=by rw [init,XN args t h0] at hk;cases hk
theorem zko {m:Nat} {al:Bool} {v r:V} {c:Value} (hI:Inv w0 S0 n s a w S τ) (hf:fin m al v=some r) (hr:zR w S τ v c) (hk:∀ k∈v.toks,∃ t,k∈(s t).toks) (d:Nat) :
    ∃ τ',Bel w0.N w0.w w ∧
     (∀ k∈(V.tag d [] m r).toks,k.root?=some d∧w0.N (τ' k).b∧(τ' k).b < w.heap.size) ∧
     (∀ k∈(V.tag d [] m r).toks,∀ k'∈(V.tag d [] m r).toks,(τ' k).b=(τ' k').b→k=k') ∧
     zR w (fun b=>(al=true∧S0 b∨w0.N b)∧b < w.heap.size∧∀ k∈(V.tag d [] m r).toks,(τ' k).b≠b) τ' (V.tag d [] m r) c:=by
 unfold fin at hf
 split at hf
 · rename_i l hl
   split at hf
   · rename_i hc
     simp only [zn] at hf;subst hf
     simp only [zp,ya,yN,yT,y8] at hc
     obtain ⟨⟨hnd,hlow⟩,hal⟩:=hc
     let τ':Tok→Blk:=fun k=>match k with
      | .at d' q=>if d'=d then τ (Mp v q) else τ k
      | k=>τ k
     have hT:M8 d (Mp v) τ τ':=by intro q;simp [τ']
     have htk:=Na d v [] m l hl
     have how:=Nz (T:=Mp v) v [] m l hl (fun q=>by simp)
     have hown:∀ x∈l,w0.N (τ' (.at d x.1)).b∧(τ' (.at d x.1)).b < w.heap.size∧¬ S (τ' (.at d x.1)).b:=by
      intro x hx
      have h1:=how x hx
      rw [hT x.1,h1.1]
      obtain ⟨t,ht⟩:=hk _ h1.2
      exact hI.own t _ ht
     refine ⟨τ',hI.below,?_,?_,?_⟩
     · intro k hk'
       rw [htk] at hk'
       obtain ⟨x,hx,rfl⟩:=yX.1 hk'
       exact ⟨rfl,(hown x hx).1,(hown x hx).2.1⟩
     · intro k hk' k2 hk2 e
       rw [htk] at hk' hk2
       obtain ⟨x,hx,rfl⟩:=yX.1 hk'
       obtain ⟨y,hy,rfl⟩:=yX.1 hk2
       have h1:=how x hx
       have h2:=how y hy
       rw [hT x.1,hT y.1,h1.1,h2.1] at e
       obtain ⟨t,ht⟩:=hk _ h1.2
       obtain ⟨t',ht'⟩:=hk _ h2.2
       have e2:=hI.inj t t' _ _ ht ht' e
       have:x=y:=by
        have hpw:=List.pairwise_map.1 hnd
        have:∀ (l:List (List Nat×Tok)),List.Pairwise (fun a b=>a.2≠b.2) l→x∈l→y∈l→x=y:=by
         intro l
         induction l with
         | nil=>intro _ h;cases h
         | cons z l ih=>
           intro hp hx hy
           rw [List.pairwise_cons] at hp
           rcases yf.1 hx with h1 | h1 <;> rcases yf.1 hy with h2 | h2
           · rw [h1,h2]
           · rw [h1] at e2;exact absurd e2 (hp.1 y h2)
           · rw [h2] at e2;exact absurd e2.symm (hp.1 x h1)
           · exact ih hp.2 h1 h2
        exact this l hpw hx hy
       rw [this]
     · -- what is shared
       have hlowS:∀ k∈V.low m v,(w0.N (τ k).b)∧(τ k).b < w.heap.size∧∀ k'∈(V.tag d [] m (V.ret m v)).toks,(τ' k').b≠(τ k).b:=by
        intro k hkl
        obtain ⟨t,ht⟩:=hk _ (NQ v [] m l hl k hkl)
        have h1:=hI.own t k ht
        refine ⟨h1.1,h1.2.1,?_⟩
        intro k' hk' e
        rw [htk] at hk'
        obtain ⟨x,hx,rfl⟩:=yX.1 hk'
        have h2:=how x hx
        rw [hT x.1,h2.1] at e
        obtain ⟨t',ht'⟩:=hk _ h2.2
        have e2:=hI.inj t' t _ _ ht' ht e
        have:=hlow x hx
        rw [e2] at this
        simp [hkl] at this
       rcases hal with hal | hal
       · subst hal
         refine Lq hT ?_ v [] m c l hr hl (fun q=>by simp) ?_
         · intro b hb
           refine ⟨?_,hI.sbd b hb,?_⟩
           · rcases hI.sfr b hb with h | h
             · exact .inl ⟨rfl,h⟩
             · exact .inr h
           · intro k' hk' e
             rw [htk] at hk'
             obtain ⟨x,hx,rfl⟩:=yX.1 hk'
             rw [← e] at hb
             exact (hown x hx).2.2 hb
         · intro k hkl
           have:=hlowS k hkl
           exact ⟨.inr this.1,this.2.1,this.2.2⟩
       · refine Lq hT (S:=fun _=>False) (fun b hb=>hb.elim) v [] m c l (LY _ v c hr hal) hl (fun q=>by simp) ?_
         intro k hkl
         have:=hlowS k hkl
         exact ⟨.inr this.1,this.2.1,this.2.2⟩
   · cases hf
 · cases hf
theorem zcO {D:Den} {σ:Sig} (hF:zH P D σ) (hm:P.follows .mixedOrders=true) {f:Nat} {fn:Func} {c:Code} (hf:P.funcs[f]?=some fn) (hb:fn.body=some c) {an:List An} {A:AC} (hc:cC P fn.ntmps an c=some A)
    {m:Nat} {al:Bool} {args:List V} {r:V} (hn:args.length≤fn.ntmps) (hnt:Nat.ble fn.ntmps zP=true)
    (h:A.wp D σ (fun e s=>(e = .nrm∨e = .ret)∧(N9 P s fn.results.toList).bind (fin m al)=some r) (init args)):Xz P f m al args r:=by
 intro d w S τ vals hS hr h0
 have hI:=zjg hS hr h0 hn (Nat.le_of_ble_eq_true hnt)
 refine calls_of_wp hf hb (zcd hF hm c A _ _ _ _ _ _ _ hc hI h ?_)
 rintro e s a w' S' τ' ⟨he,hres⟩ hI'
 simp only [Option.bind_eq_some_iff] at hres
 obtain ⟨v,hv,hfin⟩:=hres
 obtain ⟨cv,h1,h2,h3⟩:=Mj fn _ v rfl hv hI'
 obtain ⟨τ2,h4,h5,h6,h7⟩:=zko hI' hfin h2 h3 d
 rcases he with rfl | rfl
 · exact ⟨hI'.defers,cv,h1,cv,τ2,rfl,h4.below,h5,h6,h7⟩
 · exact ⟨hI'.defers,cv,h1,cv,τ2,rfl,h4.below,h5,h6,h7⟩
end
section
variable {D:Den} {σ:Sig}
end
structure Ent where
 g:Nat
 den:List V→Option V
 m:Nat
 al:Bool
 sel:List V→Bool
def tD:List Ent→Den
 | [],_,_=>none
 | e :: t,g,args=>bif g == e.g && e.sel args then e.den args else tD t g args
def tS:List Ent→Sig
 | [],_=>none
 | e :: t,g=>if g=e.g then some (e.m,e.al) else tS t g
structure Ent.Ok (P:Program) (e:Ent):Prop where
 con:∀ args r,e.den args=some r→vd P (unk e.g) e.m e.al args r
 fn : ∃ fn, P.funcs[unk e.g]? = some fn ∧ fn.body.isNone = false ∧ (fn.name == "runtime.NumGoroutine") = false
theorem zcl {P:Program}:zH P (tD []) (tS []):=⟨fun _ _ _ _ _ h=>by simp [tD] at h,fun _ _ _ h=>by simp [tS] at h⟩
theorem zfh:∀ (t:List Ent) (g:Nat) (args:List V),tS t g=none→tD t g args=none
 | [],_,_,_=>rfl
 | e :: t,g,args,h=>by
   simp only [tS] at h
   split at h
   · cases h
   · rename_i hg
     have:(g == e.g)=false:=by simpa using hg
     simp only [tD,this,ux,zo]
     exact zfh t g args h
theorem zD {P:Program} {e:Ent} {t:List Ent} (he:e.Ok P) (ht:zH P (tD t) (tS t)) (hs:tS t e.g=none∨tS t e.g=some (e.m,e.al)):zH P (tD (e :: t)) (tS (e :: t)):=by
 refine ⟨?_,?_⟩
 · intro g args r m al hD hσ
   simp only [tD,tS] at hD hσ
   by_cases hg:g=e.g
   · subst hg
     rw [if_pos rfl] at hσ
     simp only [zn,Prod.mk.injEq] at hσ
     obtain ⟨rfl,rfl⟩:=hσ
     simp only [ZL,z6] at hD
     cases hsel:e.sel args with
     | true=>rw [hsel] at hD;exact he.con args r hD
     | false=>
       rw [hsel,zo] at hD
       rcases hs with h | h
       · rw [zfh t _ args h] at hD;cases hD
       · exact ht.con _ args r _ _ hD h
   · have:(g == e.g)=false:=by simpa using hg
     rw [this,ux,zo] at hD
     rw [zy hg] at hσ
     exact ht.con g args r m al hD hσ
 · intro g m al hσ
   simp only [tS] at hσ
   split at hσ
   · rename_i hg;subst hg;exact he.fn
   · exact ht.fn g m al hσ
mutual
theorem Sh.beq_refl:∀ a:Sh,a.beq a=true
 | .s | .p=>rfl
 | .ag hs=>by simp [Sh.beq,Sh.beqs_refl hs]
theorem Sh.beqs_refl:∀ a:List Sh,Sh.beqs a a=true
 | []=>rfl
 | h :: hs=>by simp [Sh.beqs,Sh.beq_refl h,Sh.beqs_refl hs]
end
class Enc (α:Type) where
 enc:α→V
 dec:V→Option α
 shp:Sh
 dec_enc:∀ x,dec (enc x)=some x
 enc_dec:∀ v x,dec v=some x→enc x=v
 shape_enc:∀ x,(enc x).shape=shp
 erase_enc:∀ x,(enc x).erase=enc x
 toks_enc:∀ x,(enc x).toks=[]
 map_enc:∀ f x,V.map f (enc x)=enc x
 mem_enc:∀ x,(enc x).mem=true
 own0:∀ p x,V.own p 0 (enc x)=some []
 low0:∀ x,V.low 0 (enc x)=[]
 ret0:∀ x,V.ret 0 (enc x)=enc x
 tag0:∀ d p x,V.tag d p 0 (enc x)=enc x
 frz_enc:∀ K x,V.frz K (enc x)=enc x
 mut_enc:∀ t i q u x,V.mut t i q u (enc x)=enc x
open Enc (enc dec)
instance:Enc Int where
 enc x:=.int .i64 x
 dec | .int .i64 x=>some x | _=>none
 shp:=.s
 dec_enc _:=rfl
 enc_dec v x h:=by
  cases v with
  | int k n=>cases k <;> simp at h;subst h;rfl
  | _=>simp at h
 shape_enc _:=rfl
 erase_enc _:=rfl
 toks_enc _:=rfl
 map_enc _ _:=rfl
 mem_enc _:=rfl
 own0 _ _:=rfl
 low0 _:=rfl
 ret0 x:=rfl
 tag0 _ _ _:=rfl
 frz_enc _ _:=rfl
 mut_enc _ _ _ _ _:=rfl
instance:Enc Bool where
 enc x:=.bool x
 dec | .bool x=>some x | _=>none
 shp:=.s
 dec_enc _:=rfl
 enc_dec v x h:=by
  cases v with
  | bool n=>simp at h;subst h;rfl
  | _=>simp at h
 shape_enc _:=rfl
 erase_enc _:=rfl
 toks_enc _:=rfl
 map_enc _ _:=rfl
 mem_enc _:=rfl
 own0 _ _:=rfl
 low0 _:=rfl
 ret0 x:=rfl
 tag0 _ _ _:=rfl
 frz_enc _ _:=rfl
 mut_enc _ _ _ _ _:=rfl
def zcX {α:Type} [Enc α]:List V→Option (List α)
 | []=>some []
 | v :: vs=>match Enc.dec v,zcX vs with
   | some x,some xs=>some (x :: xs)
   | _,_=>none
theorem LM {α:Type} [Enc α]:∀ xs:List α,zcX (xs.map Enc.enc)=some xs
 | []=>rfl
 | x :: xs=>by simp [zcX,Enc.dec_enc,LM xs]
theorem L4 {α:Type} [Enc α]:∀ (vs:List V) (xs:List α),zcX vs=some xs→xs.map Enc.enc=vs
 | [],xs,h=>by simp [zcX] at h;subst h;rfl
 | v :: vs,xs,h=>by
   simp only [zcX] at h
   split at h
   · rename_i x xs' h1 h2
     simp only [zn] at h;subst h
     simp [Enc.enc_dec v x h1,L4 vs xs' h2]
   · cases h
theorem Z8 {α:Type} [Enc α]:∀ xs:List α,V.erases (xs.map Enc.enc)=xs.map Enc.enc
 | []=>rfl
 | x :: xs=>by simp [V.erases,Enc.erase_enc,Z8 xs]
theorem yl {α:Type} [Enc α]:∀ xs:List α,V.tokss (xs.map Enc.enc)=[]
 | []=>rfl
 | x :: xs=>by simp [V.tokss,Enc.toks_enc,yl xs]
theorem LN {α:Type} [Enc α] (f:Tok→Option Tok):∀ xs:List α,V.maps f (xs.map Enc.enc)=xs.map Enc.enc
 | []=>rfl
 | x :: xs=>by simp [V.maps,Enc.map_enc,LN f xs]
instance {α:Type} [Enc α]:Enc (List α) where
 enc xs:=.sl .sh (Enc.shp α) 0 (xs.map Enc.enc)
 dec | .sl .sh h 0 xs=>if h.beq (Enc.shp α) then zcX xs else none
     | _=>none
 shp:=.p
 dec_enc xs:=by simp [Sh.beq_refl,LM]
 enc_dec v xs h:=by
  split at h
  · split at h
    · rename_i hb
      rw [Sh.beq_eq _ _ hb,L4 _ _ h]
    · cases h
  · cases h
 shape_enc _:=rfl
 erase_enc xs:=by simp [V.erase,Z8]
 toks_enc _:=rfl
 map_enc _ _:=rfl
 mem_enc _:=rfl
 own0 _ _:=rfl
 low0 _:=rfl
 ret0 x:=by simp [V.ret,Z8]
 tag0 _ _ _:=rfl
 frz_enc _ _:=rfl
 mut_enc _ _ _ _ _:=rfl
inductive NL (α:Type) where
 | nil
 | of (xs:List α)
def NL.list {α:Type}:NL α→List α
 | .nil=>[]
 | .of xs=>xs
instance {α β:Type} [Enc α] [Enc β]:Enc (α×β) where
 enc x:=.agg [Enc.enc x.1,Enc.enc x.2]
 dec | .agg [u,v]=>match Enc.dec u,Enc.dec v with
       | some x,some y=>some (x,y)
       | _,_=>none
     | _=>none
 shp:=.ag [Enc.shp α,Enc.shp β]
 dec_enc x:=by simp [Enc.dec_enc]
 enc_dec v x h:=by
  split at h
  · split at h
    · rename_i h1 h2
      simp only [zn] at h;subst h
      simp [Enc.enc_dec _ _ h1,Enc.enc_dec _ _ h2]
    · cases h
  · cases h
 shape_enc x:=by simp [V.shape,V.shapes,Enc.shape_enc]
 erase_enc x:=by simp [V.erase,V.erases,Enc.erase_enc]
 toks_enc x:=by simp [V.toks,V.tokss,Enc.toks_enc]
 map_enc f x:=by simp [V.map,V.maps,Enc.map_enc]
 mem_enc _:=rfl
 own0 p x:=by simp [V.own,V.owns,Enc.own0]
 low0 x:=by simp [V.low,V.lows,Enc.low0]
 ret0 x:=by simp [V.ret,V.rets,Enc.ret0]
 tag0 d p x:=by simp [V.tag,V.tags,Enc.tag0]
 frz_enc K x:=by simp [V.frz,V.frzs,Enc.frz_enc]
 mut_enc t i q u x:=by simp [V.mut,V.muts,Enc.mut_enc]
class Ret (α:Type) where
 ret:α→V
instance:Ret Int:=⟨Enc.enc⟩
instance:Ret Bool:=⟨Enc.enc⟩
instance {α:Type} [Enc α]:Ret (NL α):=⟨fun | .nil=>.sl .nl (Enc.shp α) 0 [] | .of xs=>.sl .sh (Enc.shp α) 0 (xs.map Enc.enc)⟩
instance {α β:Type} [Ret α] [Ret β]:Ret (α×β):=⟨fun x=>.tup [Ret.ret x.1,Ret.ret x.2]⟩
end Go.Zq
namespace Go.Zq
def xK (D:Den) (σ:Sig) (s:Nat→V) (d:Option Nat) (l:Bool) (x:X) (K:(Nat→V)→Prop):Prop:=
 match yY D σ s d l x with
 | some s'=>K s'
 | none=>False
def goK (D:Den) (σ:Sig):List I→(Nat→V)→((Nat→V)→Prop)→Prop
 | [],s,K=>K s
 | i :: is,s,K=>match i.g with
   | none=>xK D σ s i.d i.l i.x fun s'=>goK D σ is s' K
   | some (j,want)=>match s j with
     | .bool b=>if b=want then xK D σ s i.d i.l i.x (fun s'=>goK D σ is s' K) else goK D σ is (put s i.d (.tup [])) K
     | .tup []=>goK D σ is (put s i.d (.tup [])) K
     | _=>False
def epK:List E→(Nat→V)→((Nat→V)→Prop)→Prop
 | [],s,K=>K s
 | e :: es,s,K=>match KD s e with
   | some s'=>epK es s' K
   | none=>False
section
variable {D:Den} {σ:Sig}
theorem US:∀ (is:List I) (s:Nat→V) (K:(Nat→V)→Prop),goK D σ is s K→∃ s',Wd D σ is s=some s'∧K s'
 | [],s,K,h=>⟨s,rfl,h⟩
 | i :: is,s,K,h=>by
   simp only [goK] at h
   simp only [Wd,Zq.step]
   split at h
   · rename_i hg
     try simp only [hg]
     simp only [xK] at h
     split at h
     · rename_i s1 h1
       try simp only [h1]
       exact US is s1 K h
     · exact h.elim
   · rename_i j want hg
     try simp only [hg]
     split at h
     · rename_i b hb
       try simp only [hb]
       split at h
       · rename_i hw
         try simp only [if_pos hw]
         simp only [xK] at h
         split at h
         · rename_i s1 h1
           try simp only [h1]
           exact US is s1 K h
         · exact h.elim
       · rename_i hw
         try simp only [zy hw]
         exact US is _ K h
     · rename_i hb
       try simp only [hb]
       exact US is _ K h
     · exact h.elim
theorem Nk:∀ (es:List E) (s:Nat→V) (K:(Nat→V)→Prop),epK es s K→∃ s',JB es s=some s'∧K s'
 | [],s,K,h=>⟨s,rfl,h⟩
 | e :: es,s,K,h=>by
   simp only [epK] at h
   simp only [JB]
   split at h
   · rename_i s1 h1
     try simp only [h1]
     exact Nk es s1 K h
   · exact h.elim
def AC.ok (D:Den) (σ:Sig):AC→Yn→(Nat→V)→Prop
 | .skip,Q,s=>Q .nrm s
 | .reg pk is ep,Q,s=>epK pk s fun s0=>goK D σ is s0 fun s1=>epK ep s1 (Q .nrm)
 | .seq a b,Q,s=>a.ok D σ (Yn.thn (b.ok D σ Q) Q) s
 | .cond c a b,Q,s=>match c.ev s with
   | .bool t=>if t then a.ok D σ Q s else b.ok D σ Q s
   | _=>False
 | .block id a,Q,s=>a.ok D σ (Yn.blk id Q) s
 | .loop a,Q,s=>∃ k,rounds (a.ok D σ) Q k s
 | .exit id,Q,s=>Q (.exit id) s
 | .ret,Q,s=>Q .ret s
variable {Q:Yn} {s:Nat→V} {K:(Nat→V)→Prop}
theorem zxs {d:Option Nat} {l:Bool} {a:A}:xK D σ s d l (.v a) K=(match yy s a with | some v=>K (put s d v) | none=>False):=by
 cases h:yy s a <;> simp [xK,yY,h]
end
inductive Fr where
 | sq (b:AC)
 | bk (id:Nat)
 | lp (a:AC)
inductive Cf where
 | run (a:AC) (k:List Fr)
 | nrm (k:List Fr)
 | ext (id:Nat) (k:List Fr)
inductive Run (D:Den) (σ:Sig) (R:(Nat→V)→Prop):Cf→(Nat→V)→Prop
 | skip {k s}:Run D σ R (.nrm k) s→Run D σ R (.run .skip k) s
 | reg {pk is ep k s s0 s1 s2}:JB pk s=some s0→Wd D σ is s0=some s1→JB ep s1=some s2→Run D σ R (.nrm k) s2→Run D σ R (.run (.reg pk is ep) k) s
 | seq {a b k s}:Run D σ R (.run a (.sq b :: k)) s→Run D σ R (.run (.seq a b) k) s
 | cond {c a b k s t}:c.ev s = .bool t→Run D σ R (.run (if t then a else b) k) s→Run D σ R (.run (.cond c a b) k) s
 | block {id a k s}:Run D σ R (.run a (.bk id :: k)) s→Run D σ R (.run (.block id a) k) s
 | loop {a k s}:Run D σ R (.run a (.lp a :: k)) s→Run D σ R (.run (.loop a) k) s
 | exit {id k s}:Run D σ R (.ext id k) s→Run D σ R (.run (.exit id) k) s
 | ret {k s}:R s→Run D σ R (.run .ret k) s
 | nil {s}:R s→Run D σ R (.nrm []) s
 | nsq {b k s}:Run D σ R (.run b k) s→Run D σ R (.nrm (.sq b :: k)) s
 | nbk {id k s}:Run D σ R (.nrm k) s→Run D σ R (.nrm (.bk id :: k)) s
 | nlp {a k s}:Run D σ R (.run a (.lp a :: k)) s→Run D σ R (.nrm (.lp a :: k)) s
 | esq {id b k s}:Run D σ R (.ext id k) s→Run D σ R (.ext id (.sq b :: k)) s
 | ebk {id k s}:Run D σ R (.nrm k) s→Run D σ R (.ext id (.bk id :: k)) s
 | ebn {i id k s}:i≠id→Run D σ R (.ext i k) s→Run D σ R (.ext i (.bk id :: k)) s
 | elp {i a k s}:Run D σ R (.ext i k) s→Run D σ R (.ext i (.lp a :: k)) s
def JO (D:Den) (σ:Sig) (R:(Nat→V)→Prop):List Fr→Yn
 | []=>fun e s=>(e = .nrm∨e = .ret)∧R s
 | .sq b :: k=>Yn.thn (b.wp D σ (JO D σ R k)) (JO D σ R k)
 | .bk id :: k=>Yn.blk id (JO D σ R k)
 | .lp a :: k=>Yn.thn (fun s=>∃ n,rounds (a.wp D σ) (JO D σ R k) n s) (JO D σ R k)
section
variable {D:Den} {σ:Sig} {R:(Nat→V)→Prop}
theorem Kn {s:Nat→V} (h:R s):∀ k,JO D σ R k .ret s
 | []=>⟨.inr rfl,h⟩
 | .sq _ :: k=>Kn h k
 | .bk _ :: k=>Kn h k
 | .lp _ :: k=>Kn h k
theorem zph:∀ (A:AC) {Q:Yn} {s:Nat→V},A.wp D σ Q s→∃ e s',Q e s'∧∀ Q':Yn,Q' e s'→A.wp D σ Q' s:=by
 intro A
 induction A with
 | skip=>intro Q s h;exact ⟨_,_,h,fun _ h=>h⟩
 | reg pk is ep=>
   intro Q s h
   simp only [AC.wp] at h ⊢
   cases h0:JB pk s with
   | none=>simp only [h0] at h
   | some s0=>
     simp only [h0] at h ⊢
     cases h1:Wd D σ is s0 with
     | none=>simp only [h1] at h
     | some s1=>
       simp only [h1] at h ⊢
       cases h2:JB ep s1 with
       | none=>simp only [h2] at h
       | some s2=>simp only [h2] at h ⊢;exact ⟨_,_,h,fun _ h=>h⟩
 | seq a b iha ihb=>
   intro Q s h
   obtain ⟨e,s1,h1,h2⟩:=iha h
   cases e with
   | nrm=>
     obtain ⟨e2,s2,h3,h4⟩:=ihb h1
     exact ⟨e2,s2,h3,fun Q' hq=>h2 _ (h4 Q' hq)⟩
   | exit id=>exact ⟨_,_,h1,fun Q' hq=>h2 _ hq⟩
   | ret=>exact ⟨_,_,h1,fun Q' hq=>h2 _ hq⟩
 | cond c a b iha ihb=>
   intro Q s h
   simp only [AC.wp] at h ⊢
   cases hc:c.ev s with
   | bool t=>
     simp only [hc] at h ⊢
     cases t with
     | true=>exact iha h
     | false=>exact ihb h
   | _=>simp only [hc] at h
 | block id a ih=>
   intro Q s h
   obtain ⟨e,s1,h1,h2⟩:=ih h
   cases e with
   | nrm=>exact ⟨.nrm,s1,h1,fun Q' hq=>h2 _ hq⟩
   | ret=>exact ⟨.ret,s1,h1,fun Q' hq=>h2 _ hq⟩
   | exit i=>
     simp only [Yn.blk] at h1
     split at h1
     · rename_i e;exact ⟨.nrm,s1,h1,fun Q' hq=>h2 _ (by simp only [Yn.blk,if_pos e];exact hq)⟩
     · rename_i e;exact ⟨.exit i,s1,h1,fun Q' hq=>h2 _ (by simp only [Yn.blk,zy e];exact hq)⟩
 | loop a ih=>
   intro Q s h
   obtain ⟨n,hn⟩:=h
   have key:∀ n s,rounds (a.wp D σ) Q n s→∃ e s',Q e s'∧∀ Q':Yn,Q' e s'→∃ m,rounds (a.wp D σ) Q' m s:=by
    intro n
    induction n with
    | zero=>intro s h;exact h.elim
    | succ n ihn=>
      intro s h
      obtain ⟨e,s1,h1,h2⟩:=ih h
      cases e with
      | nrm=>
        obtain ⟨e2,s2,h3,h4⟩:=ihn s1 h1
        refine ⟨e2,s2,h3,fun Q' hq=>?_⟩
        obtain ⟨m,hm⟩:=h4 Q' hq
        exact ⟨m + 1,h2 _ hm⟩
      | exit id=>exact ⟨_,_,h1,fun Q' hq=>⟨1,h2 _ hq⟩⟩
      | ret=>exact ⟨_,_,h1,fun Q' hq=>⟨1,h2 _ hq⟩⟩
   exact key n s hn
 | exit id=>intro Q s h;exact ⟨_,_,h,fun _ h=>h⟩
 | ret=>intro Q s h;exact ⟨_,_,h,fun _ h=>h⟩
theorem Qq {a:AC} {Q:Yn} {s:Nat→V} (h:a.wp D σ (Yn.thn (fun s=>∃ n,rounds (a.wp D σ) Q n s) Q) s):∃ n,rounds (a.wp D σ) Q n s:=by
 obtain ⟨e,s1,h1,h2⟩:=zph a h
 cases e with
 | nrm=>
   obtain ⟨n,hn⟩:=h1
   exact ⟨n + 1,h2 _ hn⟩
 | exit id=>exact ⟨1,h2 _ h1⟩
 | ret=>exact ⟨1,h2 _ h1⟩
def zjy (D:Den) (σ:Sig) (R:(Nat→V)→Prop):Cf→(Nat→V)→Prop
 | .run a k,s=>a.wp D σ (JO D σ R k) s
 | .nrm k,s=>JO D σ R k .nrm s
 | .ext id k,s=>JO D σ R k (.exit id) s
theorem zc5 {c:Cf} {s:Nat→V} (h:Run D σ R c s):zjy D σ R c s:=by
 induction h with
 | skip _ ih=>exact ih
 | reg h0 h1 h2 _ ih=>simp only [zjy,AC.wp,h0,h1,h2];exact ih
 | seq _ ih=>exact ih
 | cond hc _ ih=>
   rename_i t _
   simp only [zjy,AC.wp,hc] at ih ⊢
   cases t
   · exact ih
   · exact ih
 | block _ ih=>exact ih
 | loop _ ih=>exact Qq ih
 | exit _ ih=>exact ih
 | ret h=>exact Kn h _
 | nil h=>exact ⟨.inl rfl,h⟩
 | nsq _ ih=>exact ih
 | nbk _ ih=>exact ih
 | nlp _ ih=>exact Qq ih
 | esq _ ih=>exact ih
 | ebk _ ih=>simp only [zjy,JO,Yn.blk,z5];exact ih
 | ebn hn _ ih=>simp only [zjy,JO,Yn.blk,zy hn];exact ih
 | elp _ ih=>exact ih
theorem Je {P:Program} (hF:zH P D σ) (hm:P.follows .mixedOrders=true) {f:Nat} {fn:Func} {c:Code} (hf:P.funcs[f]?=some fn) (hb:fn.body=some c) {an:List An} {A:AC} (hc:cC P fn.ntmps an c=some A)
    {m:Nat} {al:Bool} {args:List V} {r:V} (hn:args.length≤fn.ntmps)
    (h:Run D σ (fun s=>(N9 P s fn.results.toList).bind (fin m al)=some r) (.run A []) (init args)) (hnt:Nat.ble fn.ntmps zP=true:=by decide) (hmp:Nat.ble zP m=false:=by rfl):vd P f m al args r:=by
 have h1:=zcO hF hm hf hb hc hn hnt (zc5 h)
 unfold vd
 rw [zy (by rintro rfl;exact absurd hmp (by decide)),zy (by rintro rfl;exact absurd hmp (by decide)),zy (by rintro rfl;exact absurd hmp (by decide))]
 exact h1
variable {s:Nat→V} {K:(Nat→V)→Prop} {is:List I}
theorem zC {pk ep k} (h:epK pk s fun s0=>goK D σ is s0 fun s1=>epK ep s1 (Run D σ R (.nrm k))):Run D σ R (.run (.reg pk is ep) k) s:=by
 obtain ⟨s0,h5,h6⟩:=Nk _ _ _ h
 obtain ⟨s1,h1,h2⟩:=US _ _ _ h6
 obtain ⟨s2,h3,h4⟩:=Nk _ _ _ h2
 exact .reg h5 h1 h3 h4
theorem zu {γ:Type} {r:γ} {A B:Option γ} {c:O} {a b:AC} {k:List Fr} {t:Bool} (hc:c.ev s = .bool t) (h:(bif t then A else B)=some r)
    (h1:A=some r→Run D σ R (.run a k) s) (h2:B=some r→Run D σ R (.run b k) s):Run D σ R (.run (.cond c a b) k) s:=by
 refine .cond hc ?_
 cases t with
 | true=>exact h1 h
 | false=>exact h2 h
theorem zd {α β:Type} {x:Option α} {f:α→Option β} {r:β} (h:x.bind f=some r):∃ a,x=some a∧f a=some r:=by
 cases x with
 | none=>cases h
 | some a=>exact ⟨a,rfl,h⟩
def zB:List (Nat×V)→(Nat→V)→Prop
 | [],_=>True
 | [(t,v)],s=>s t=v
 | (t,v) :: L,s=>s t=v∧zB L s
theorem g_v {d:Nat} {l:Bool} {a:A} (v:V) (h:yy s a=some v) (H:goK D σ is (upd s d v) K):goK D σ (⟨some d,none,l,.v a⟩ :: is) s K:=by
 simp only [goK,zxs,h,put];exact H
theorem zt {d j:Nat} {l b:Bool} {x:X} (hj:s j = .bool b) (H:goK D σ (⟨some d,none,l,x⟩ :: is) s K):goK D σ (⟨some d,some (j,b),l,x⟩ :: is) s K:=by
 simp only [goK,hj,z5];exact H
theorem yq {d j:Nat} {l b:Bool} {x:X} (hj:s j = .bool (!b)) (H:goK D σ is (upd s d (.tup [])) K):goK D σ (⟨some d,some (j,b),l,x⟩ :: is) s K:=by
 simp only [goK,hj]
 rw [zy (by cases b <;> simp)];exact H
theorem Yu {d j:Nat} {l b:Bool} {x:X} (hj:s j = .tup []) (H:goK D σ is (upd s d (.tup [])) K):goK D σ (⟨some d,some (j,b),l,x⟩ :: is) s K:=by
 simp only [goK,hj];exact H
theorem xU {d:Nat} {l:Bool} {x:O} (v:V) (h:x.rd s=some v) (hg:s d = .gone) (hm:v.mem=true) (H:goK D σ is (upd s d (.ref (.bx d) 0 [] v)) K):goK D σ (⟨some d,none,l,.box x⟩ :: is) s K:=by
 simp only [goK,xK,yY,h,hg,hm,z5];exact H
theorem y6 {d:Nat} {l:Bool} {z:V} (hg:s d = .gone) (H:goK D σ is (upd s d (.ref (.bx d) 0 [] z)) K):goK D σ (⟨some d,none,l,.alloc z⟩ :: is) s K:=by
 simp only [goK,xK,yY,hg];exact H
theorem zQ {l:Bool} {g:Sh} {x y:O} {t i q c} (v:V) (hx:x.rd s=some (.ref t i q c)) (hy:y.rd s=some v) (h:t≠.sh∧t≠.nl∧v.mem=true∧v.shape.beq g=true∧c.shape.beq g=true∧v.toks.contains t=false)
    (H:goK D σ is (Uy t i q v s) K):goK D σ (⟨none,none,l,.store g x y⟩ :: is) s K:=by
 simp only [goK,xK,yY,hx,hy];rw [if_pos h];exact H
end
def zh {α:Type} [Enc α] (t:Tok):NL α→V
 | .nil=>.sl .nl (Enc.shp α) 0 []
 | .of xs=>.sl t (Enc.shp α) 0 (xs.map Enc.enc)
def idx {α:Type} (xs:List α) (i:Int):Option α:=if 0≤i then xs[i.toNat]? else none
def mkN {α:Type} (m:Int) (x:α):Option (List α):=if 0≤m∧m≤2 ^ 40 then some (List.replicate m.toNat x) else none
def zk5 {α:Type} (o:NL α) (ys:List α):Option (NL α):=if o.list.length + ys.length≤2 ^ 40 then (match o,ys with
 | .nil,[]=>some .nil
 | o,ys=>some (.of (o.list++ys))) else none
def sub {α:Type} (xs:List α) (a b:Int):Option (List α):=if 0≤a∧a≤b∧b≤xs.length then some ((xs.drop a.toNat).take (b.toNat - a.toNat)) else none
def zsJ (pk:List Nat) (k:Tok):Option Tok:=if pk.any (fun r=>k.root? == some r) then none else some k
def Ul (t:Tok) (k:Tok):Option Tok:=if k == t then none else some k
section
variable {D:Den} {σ:Sig} {R:(Nat→V)→Prop} {s:Nat→V} {K:(Nat→V)→Prop} {is:List I}
theorem zm {α:Type} [Enc α] {f:Tok→Option Tok} {r:Nat} {p:List Nat} {t':Tok} {o:NL α} (hf:f (.at r p)=some t') (hn:f .nl=some .nl):V.map f (zh (.at r p) o)=zh t' o:=by
 cases o with
 | nil=>simp [zh,V.map,hn,V.maps]
 | of xs=>simp [zh,V.map,hf,LN]
theorem ug {α:Type} [Enc α] {t:Tok} {o:NL α}:(zh t o).erase=Enc.enc o.list:=by
 cases o with
 | nil=>simp [zh,V.erase,NL.list,Enc.enc,V.erases]
 | of xs=>simp [zh,V.erase,NL.list,Enc.enc,Z8]
theorem zx {x:O} {v:V} (h:x.ev s=v) (hk:v.ok=true):x.rd s=some v:=by
 unfold O.rd;rw [h,if_pos hk]
theorem zlY {x:O} {v:V} (h:x.ev s=v) (hk:v.ok=true):x.pk s=v:=by
 unfold O.pk;rw [h];cases v <;> first | rfl | simp [V.ok] at hk
theorem zjm {α:Type} [Enc α] {x:O} {t:Tok} {h:Sh} {lo:Nat} {xs:List α} (hx:x.ev s = .sl t h lo (xs.map Enc.enc)):yy s (.len x)=some (.int .i64 xs.length):=by
 simp only [yy,zlY hx rfl,uz]
theorem YN {α:Type} [Enc α] {x:O} {t:Tok} {o:NL α} (hx:x.ev s=zh t o):yy s (.len x)=some (.int .i64 o.list.length):=by
 cases o with
 | nil=>simp only [yy,zh] at hx ⊢;rw [zlY hx rfl];rfl
 | of xs=>exact zjm (h:=Enc.shp α) (lo:=0) hx
theorem yG {α:Type} [Enc α] {x i:O} {t:Tok} {lo e:Nat} {xs:List α} {k:IntKind} {n:Int} {a:α} (hx:x.ev s = .sl t (Enc.shp α) lo (xs.map Enc.enc)) (hi:i.ev s = .int k n) (ha:idx xs n=some a)
    (he:(Enc.shp α).size=e) (ht:(t != .nl && !t.isBx)=true):yy s (.idx x i e)=some (.ref t (if t = .sh then 0 else lo + n.toNat) [] (Enc.enc a)):=by
 unfold idx at ha
 split at ha
 · rename_i h0
   simp only [yy,zx hx rfl,zx hi rfl,h0,z5,List.getElem?_map,ha,yU,he,ZL,z6,ht]
 · cases ha
theorem vi {α:Type} [Enc α] {x i:O} {r:Nat} {p:List Nat} {e:Nat} {o:NL α} {k:IntKind} {n:Int} {a:α} (hx:x.ev s=zh (.at r p) o) (hi:i.ev s = .int k n) (ha:idx o.list n=some a)
    (he:(Enc.shp α).size=e):yy s (.idx x i e)=some (.ref (.at r p) n.toNat [] (Enc.enc a)):=by
 cases o with
 | nil=>simp [idx,NL.list] at ha
 | of xs=>
   have:=yG (t:=.at r p) (lo:=0) hx hi ha he (by simp [Tok.isBx])
   simpa using this
theorem znL {α:Type} [Enc α] {d:Nat} {n:O} {z z0:V} {k:IntKind} {m:Int} {xs:List α} (x:α) (hn:n.ev s = .int k m) (hz:z=Enc.enc x) (hg:s d = .gone) (ho:mkN m x=some xs)
    (H:goK D σ is (upd s d (.sl (.at d []) (Enc.shp α) 0 (xs.map Enc.enc))) K):goK D σ (⟨some d,none,false,.mk n z z0⟩ :: is) s K:=by
 unfold mkN at ho
 split at ho
 · rename_i hb
   simp only [zn] at ho;subst ho;subst hz
   simp only [goK,xK,yY,zx hn rfl,hg,if_pos hb]
   simp only [yD,yb,Enc.shape_enc]
   simp only [List.map_replicate] at H
   exact H
 · cases ho
theorem ztb {d:Nat} {z:V} {len:Nat} {ps:List (Nat×Nat×O)} (vs:List V) (h:xX s ps (List.replicate len z)=some vs) (hg:s d = .gone)
    (H:goK D σ is (upd s d (.sl (.at d []) z.shape 0 vs)) K):goK D σ (⟨some d,none,false,.lit z len ps⟩ :: is) s K:=by
 simp only [goK,xK,yY,h,hg]
 simp only [yD,yb]
 exact H
theorem ZG {α:Type} [Enc α] {d r q:Nat} {p:List Nat} {g:Sh} {o o':NL α} {ys:List α} {y:O} {t2:Tok} {lo2:Nat} (hx:s r=zh (.at q p) o) (hy:y.ev s = .sl t2 (Enc.shp α) lo2 (ys.map Enc.enc)) (hgg:g=Enc.shp α) (hg:s d = .gone) (ha:zk5 o ys=some o')
    (H:∀ s1,(∀ t v u,s t=v→V.map (Ul (.at q p)) v=u→(o = .nil→v=u)→s1 t=u)→goK D σ is (upd s1 d (zh (.at d []) o')) K):goK D σ (⟨some d,none,false,.app g (.t r) y⟩ :: is) s K:=by
 subst hgg
 unfold zk5 at ha
 split at ha
 · rename_i hlen
   cases o with
   | nil=>
     have hsp:spent s (.t r)=some (s,.sl .nl (Enc.shp α) 0 []):=by simp only [spent];rw [hx];rfl
     simp only [goK,xK,yY,hsp,zx hy rfl,hg,Sh.beq_refl,yl,List.isEmpty_nil,Bool.or_true,z6]
     simp only [NL.list,List.length_nil] at hlen
     rw [if_pos (by simpa using hlen)]
     have:=H s (fun t v u h1 _ h3=>h1.trans (h3 rfl))
     simp only [ux,yD,yb]
     have e:KC d .nl (Enc.shp α) [] (ys.map Enc.enc)=zh (.at d []) o':=by
      cases ys with
      | nil=>simp at ha;subst ha;rfl
      | cons y ys=>simp [NL.list] at ha;subst ha;rfl
     rw [e];exact this
   | of xs=>
     have hsp:spent s (.t r)=some (WZ (Ul (.at q p)) s,.sl (.at q p) (Enc.shp α) 0 (xs.map Enc.enc)):=by
      simp only [spent];rw [hx];simp only [zh,yl,List.contains_nil,Ym,z5];rfl
     have hgd:WZ (Ul (.at q p)) s d = .gone:=by simp only [WZ,hg];rfl
     simp only [goK,xK,yY,hsp,zx hy rfl,hgd,Sh.beq_refl,yl,List.isEmpty_nil,Bool.or_true,z6]
     simp only [NL.list] at hlen
     rw [if_pos (by simpa using hlen)]
     have:=H (WZ (Ul (.at q p)) s) (fun t v u h1 h2 _=>by simp only [WZ,h1];exact h2)
     simp only [ux,yD,yb]
     have e:KC d (.at q p) (Enc.shp α) (xs.map Enc.enc) (ys.map Enc.enc)=zh (.at d []) o':=by
      have:o' = .of (xs++ys):=by cases ys <;> simp [NL.list] at ha <;> simp [ha.symm]
      subst this
      simp [KC,zh]
     rw [e];exact this
 · cases ha
theorem XG {d g m:Nat} {al:Bool} {as:List O} {r:V} (vs:List V) (hv:xO as s=some (vs,s)) (hD:D g vs=some r) (hσ:σ g=some (m,al)) (hal:(al && !(xQ s as).isEmpty)=false)
    (hr:r.toks=[]) (ht:(V.tag d [] m r).toks=[]) (hok:(V.tag d [] m r).ok=true) (H:goK D σ is (upd s d (V.tag d [] m r)) K) (hmp:Nat.ble zP m=false:=by rfl) (hgm:Nat.ble Xv g=false:=by rfl):goK D σ (⟨some d,none,false,.call (.k (.fn g [] [])) as⟩ :: is) s K:=by
 have h0:(V.fn g [] []).toks=[]:=by simp [V.toks,V.tokss]
 have h1:O.rd s (.k (.fn g [] []))=some (.fn g [] []):=rfl
 have hal':¬ ((al && !((xQ s as).isEmpty && (V.fn g [] []).toks.isEmpty))=true):=by simp [h0];simpa using hal
 simp only [goK,xK,yY,KF,h1,hv,V.erases,List.nil_append,xy,key,zo,hD,hσ,hgm,yD,yb]
 rw [zy hal']
 simp only [hr,hmp,Ym,List.isEmpty_nil,List.all_nil,wT,z5,y3,place,ht,hok,put]
 exact H
end
section
variable {D:Den} {σ:Sig} {R:(Nat→V)→Prop} {s:Nat→V} {K:(Nat→V)→Prop} {is:List I}
theorem xf {ep:List E} (H:epK ep s K):goK D σ [] s (fun s1=>epK ep s1 K):=H
theorem ztx (H:K s):epK [] s K:=H
theorem zvN {d:Nat} {l:Bool} {a:A} (v:V) (he:yy (fun _=>.dead) a=some v) (hr:a.rds=[]) (H:goK D σ is (upd s d v) K):goK D σ (⟨some d,none,l,.v a⟩ :: is) s K:=
 g_v v (by rw [uR (s2:=fun _=>.dead) (by rw [hr];intro t ht;cases ht)];exact he) H
theorem zxg {d:Nat} {l:Bool} {a:A} {t:Nat} {u:V} (v:V) (h:s t=u) (he:yy (fun _=>u) a=some v) (hr:(a.rds.all fun k=>k == t)=true) (H:goK D σ is (upd s d v) K):goK D σ (⟨some d,none,l,.v a⟩ :: is) s K:=
 g_v v (by
  rw [uR (s2:=fun _=>u)]
  · exact he
  · intro k hk
    have:=yN.1 hr k hk
    simp at this;subst this;exact h) H
theorem zvV {d:Nat} {l:Bool} {a:A} {t1 t2:Nat} {u1 u2:V} (v:V) (h1:s t1=u1) (h2:s t2=u2) (he:yy (fun k=>if k=t1 then u1 else u2) a=some v) (hr:(a.rds.all fun k=>k == t1 || k == t2)=true) (H:goK D σ is (upd s d v) K) :
    goK D σ (⟨some d,none,l,.v a⟩ :: is) s K:=
 g_v v (by
  rw [uR (s2:=fun k=>if k=t1 then u1 else u2)]
  · exact he
  · intro k hk
    have:=yN.1 hr k hk
    simp only [y8,ym] at this
    by_cases e:k=t1
    · simp only [e,z5];exact h1
    · have:k=t2:=this.resolve_left e
      subst this;simp only [zy e];exact h2) H
end
abbrev w64 (x:Int):Int:=IntKind.i64.wrap x
def yI (k:IntKind) (x y:Int):Int:=k.wrap (BitVec.ofInt k.bits x &&& BitVec.ofInt k.bits y).toNat
def ior (k:IntKind) (x y:Int):Int:=k.wrap (BitVec.ofInt k.bits x ||| BitVec.ofInt k.bits y).toNat
def yx (k:IntKind) (x y:Int):Int:=k.wrap (BitVec.ofInt k.bits x &&& ~~~BitVec.ofInt k.bits y).toNat
def RR (P:Program) (rs:List ResultVar) (m:Nat) (al:Bool) (r:V) (s:Nat→V):Prop:=(N9 P s rs).bind (fin m al)=some r
instance {α:Type} [Enc α]:Ret (List α):=⟨Enc.enc⟩
section
variable {D:Den} {σ:Sig} {R:(Nat→V)→Prop} {s:Nat→V} {P:Program}
theorem zgt {c:O} {a b:AC} {k:List Fr} (hc:c.ev s = .bool false) (h:Run D σ R (.run b k) s):Run D σ R (.run (.cond c a b) k) s:=.cond hc h
theorem yd {γ:Type} {r:γ} {A B:Option γ} {c:Bool} {G:Prop} (h:(bif c then A else B)=some r) (h1:c=true→A=some r→G) (h2:c=false→B=some r→G):G:=by
 cases c with
 | true=>exact h1 rfl h
 | false=>exact h2 rfl h
theorem zJ:xO [] s=some ([],s):=rfl
theorem zl {s1:Nat→V} {x:O} {xs:List O} {v u:V} {vs:List V} (h:x.ev s=v) (hk:v.ok=true) (he:v.erase=u) (hvs:xO xs s=some (vs,s1)):xO (x :: xs) s=some (u :: vs,s1):=by
 subst he
 simp only [xO,h]
 cases v <;> first | (simp [V.ok] at hk;done) | simp only [hvs,yU]
theorem Xi:xQ s []=[]:=rfl
theorem wC {x:O} {xs:List O} {v:V} (h:x.ev s=v) (hk:v.ok=true) (h0:v.toks=[]) (hs:xQ s xs=[]):xQ s (x :: xs)=[]:=by
 simp only [xQ,h,hs,xy]
 cases v <;> first | (simp [V.ok] at hk;done) | exact h0
theorem Xt {as:List O} {al:Bool} (h:xQ s as=[]):(al && !(xQ s as).isEmpty)=false:=by simp [h]
variable {K:(Nat→V)→Prop} {is:List I}
def LC:List (Nat×V)→Nat→V
 | [],_=>.dead
 | (t,v) :: L,k=>if k=t then v else LC L k
theorem Lj:∀ (L:List (Nat×V)) (s:Nat→V),zB L s→∀ k,(L.any fun x=>x.1 == k)=true→s k=LC L k
 | [],_,_,k,h=>by simp at h
 | [(t,v)],s,hf,k,h=>by
   simp only [List.any_cons,List.any_nil,Yp,ym] at h
   subst h;simp only [LC,z5];exact hf
 | (t,v) :: y :: L,s,hf,k,h=>by
   by_cases e:k=t
   · subst e;simp only [LC,z5];exact hf.1
   · rw [LC,zy e]
     refine Lj (y :: L) s hf.2 k ?_
     simp only [List.any_cons,y8,ym] at h ⊢
     exact h.resolve_left fun h=>e h.symm
theorem xv {d:Nat} {z:V} {len:Nat} {ps:List (Nat×Nat×O)} (L:List (Nat×V)) (vs:List V) (hs:zB L s) (h:xX (LC L) ps (List.replicate len z)=some vs)
    (hr:((ps.flatMap fun p=>p.2.2.rds).all fun k=>L.any fun x=>x.1 == k)=true) (hg:s d = .gone)
    (H:goK D σ is (upd s d (.sl (.at d []) z.shape 0 vs)) K):goK D σ (⟨some d,none,false,.lit z len ps⟩ :: is) s K:=
 ztb vs (by rw [vy (s2:=LC L) fun k hk=>Lj L s hs k (yN.1 hr k hk)];exact h) hg H
theorem yc {pk:List Nat} {es:List E} (H:epK es (clear pk s) K):epK (.clr pk :: es) s K:=H
theorem za {pk:List Nat} {t:Nat} {v:V} (h:s t=v) (hn:pk.contains t=false) (hm:V.map (zsJ pk) v=v):clear pk s t=v:=by
 simp only [clear,hn,h];exact hm
theorem zg {pk:List Nat} {t:Nat} (hn:pk.contains t=true):clear pk s t = .gone:=by
 simp only [clear,hn,z5]
theorem yR {r x:Nat} {es:List E} {v:V} (hx:s x=v) (hk:v.ok=true) (H:∀ s1,(∀ t u u',s t=u→V.map (JC r x) u=u'→s1 t=u')→epK es s1 K) (hp:Nat.ble zP x=false:=by rfl):epK (.home r x :: es) s K:=by
 have:KD s (.home r x)=some (WZ (JC r x) s):=by
  simp only [KD,hx,hp]
  cases v <;> first | (simp [V.ok] at hk;done) | rfl
 simp only [epK,this]
 exact H _ fun t u u' h1 h2=>by simp only [WZ,h1,h2]
theorem JQ {x:Nat} {es:List E} {v:V} (ks:List Tok) (hx:s x=v) (hk:v.toks=ks) (H:∀ s1,(∀ t u u',s t=u→V.frz ks u=u'→s1 t=u')→epK es s1 K):epK (.frz x :: es) s K:=by
 have:KD s (.frz x)=some fun t=>V.frz ks (s t):=by simp only [KD,hx,hk]
 simp only [epK,this]
 exact H _ fun t u u' h1 h2=>by simp only [h1,h2]
theorem zF {s1:Nat→V} {tk:Tok} {t:Nat} {v:V} {N:Prop} (hs:∀ t v u,s t=v→V.map (Ul tk) v=u→(N→v=u)→s1 t=u) (h:s t=v) (hm:V.map (Ul tk) v=v):s1 t=v:=hs t v v h hm (fun _=>rfl)
theorem xG {s1:Nat→V} {tk:Tok} {t:Nat} {v u:V} {N:Prop} (hs:∀ t v u,s t=v→V.map (Ul tk) v=u→(N→v=u)→s1 t=u) (h:s t=v) (hm:V.map (Ul tk) v=u) (hn:N→v=u):s1 t=u:=hs t v u h hm hn
theorem zr {f:Tok→Option Tok} {vs us:List V} (h:V.maps f vs=us):V.map f (.agg vs) = .agg us:=by simp only [V.map,h]
theorem zk {f:Tok→Option Tok}:V.maps f []=[]:=rfl
theorem zc {f:Tok→Option Tok} {v u:V} {vs us:List V} (h:V.map f v=u) (hs:V.maps f vs=us):V.maps f (v :: vs)=u :: us:=by simp only [V.maps,h,hs]
theorem zi {f:Tok→Option Tok} {r r' i:Nat} {q:List Nat} {c u:V} (hf:f (.bx r)=some (.bx r')) (h:V.map f c=u):V.map f (.ref (.bx r) i q c) = .ref (.bx r') i q u:=by simp only [V.map,hf,h]
def vh {α:Type} (xs ys:List α):Option (List α):=if xs.length + ys.length≤2 ^ 40 then some (xs++ys) else none
theorem vK {α:Type} {o:NL α} {ys zs:List α} (h:vh o.list ys=some zs) (hn:(match o with | .of _=>True | .nil=>ys≠[])):zk5 o ys=some (.of zs):=by
 unfold vh at h
 unfold zk5
 split at h
 · rename_i hl
   rw [if_pos hl]
   simp only [zn] at h;subst h
   cases o with
   | nil=>cases ys with
     | nil=>exact absurd rfl hn
     | cons y ys=>rfl
   | of xs=>cases ys <;> rfl
 · cases h
structure zcM (v r:V):Prop where
 own:∀ p,V.own p 0 v=some []
 ret:V.ret 0 v=r
theorem w5 {α:Type} [Enc α] {x:α}:zcM (Enc.enc x) (Enc.enc x):=⟨fun p=>Enc.own0 p x,Enc.ret0 x⟩
theorem xk {α:Type} [Enc α] {t:Tok} {o:NL α}:zcM (zh t o) (Enc.enc o.list):=by
 cases o with
 | nil=>exact ⟨fun p=>rfl,by simp [zh,V.ret,NL.list,Enc.enc,V.erases]⟩
 | of xs=>exact ⟨fun p=>rfl,by simp [zh,V.ret,NL.list,Enc.enc,Z8]⟩
theorem ww {v r:V} (h:zcM v r):fin 0 true v=some r:=by
 simp only [fin,h.own,List.map_nil,List.all_nil,Bool.true_or,Bool.and_true,h.ret]
 simp
theorem zb {tk:Tok} {i:Nat} {q:List Nat} {u:V} {t:Nat} {v v':V} (h:s t=v) (hm:V.mut tk i q u v=v'):Uy tk i q u s t=v':=by
 simp only [Uy,h];exact hm
theorem LW (u:V):∀ (vs:List V) (i:Nat),V.setPs vs i [] u=vs.set i u
 | [],_=>by simp [V.setPs]
 | v :: vs,0=>by simp [V.setPs,V.setP]
 | v :: vs,i + 1=>by simp [V.setPs,LW u vs i]
theorem LT {α:Type} [Enc α] (tk:Tok) (i:Nat) (q:List Nat) (u:V):∀ xs:List α,V.muts tk i q u (xs.map Enc.enc)=xs.map Enc.enc
 | []=>rfl
 | x :: xs=>by simp [V.muts,Enc.mut_enc,LT tk i q u xs]
theorem Kl {α:Type} [Enc α] {r:Nat} {p:List Nat} {i:Nat} {u:α} {xs:List α}:V.mut (.at r p) i [] (Enc.enc u) (zh (.at r p) (.of xs))=zh (.at r p) (.of (xs.set i u)):=by
 simp [zh,V.mut,LT,LW,List.map_set]
theorem yg {α:Type} [Enc α] {tk:Tok} {r:Nat} {p:List Nat} {i:Nat} {q:List Nat} {u:V} {o:NL α} (hn:(tk == .at r p)=false) (hl:(tk == .nl)=false):V.mut tk i q u (zh (.at r p) o)=zh (.at r p) o:=by
 simp only [wv,ne_eq] at hn hl
 cases o with
 | nil=>simp [zh,V.mut,hl,V.muts]
 | of xs=>simp [zh,V.mut,hn,LT]
theorem zK {tk:Tok} {i:Nat} {q:List Nat} {u:V} {vs us:List V} (h:V.muts tk i q u vs=us):V.mut tk i q u (.agg vs) = .agg us:=by simp only [V.mut,h]
theorem zf {tk:Tok} {i:Nat} {q:List Nat} {u:V} {v w:V} {vs us:List V} (h:V.mut tk i q u v=w) (hs:V.muts tk i q u vs=us):V.muts tk i q u (v :: vs)=w :: us:=by simp only [V.muts,h,hs]
def ziA (k:IntKind) (x y:Int):Option Int:=if y=0 then none else some (x.tmod y)
def Uv (k:IntKind) (x y:Int):Option Int:=if y < 0 then none else some (k.wrap (x * 2 ^ (min y.toNat k.bits)))
def Um (k:IntKind) (x y:Int):Option Int:=if y < 0 then none else some (x.fdiv (2 ^ (min y.toNat k.bits)))
theorem zny {k:IntKind} {x y:O} {a b v:Int} (hx:x.ev s = .int k a) (hy:y.ev s = .int k b) (h:ziA k a b=some v):yy s (.bin .rem x y)=some (.int k v):=by
 unfold ziA at h
 split at h
 · cases h
 · rename_i h0;simp only [zn] at h;subst h
   simp only [yy,zx hx rfl,zx hy rfl,NP,z5,Wj,zy h0]
theorem Y1 {k k':IntKind} {x y:O} {a b v:Int} (hx:x.ev s = .int k a) (hy:y.ev s = .int k' b) (h:Uv k a b=some v):yy s (.bin .shl x y)=some (.int k v):=by
 unfold Uv at h
 split at h
 · cases h
 · rename_i h0;simp only [zn] at h;subst h
   simp only [yy,zx hx rfl,zx hy rfl,NP,J3,zy h0]
theorem Wi {k k':IntKind} {x y:O} {a b v:Int} (hx:x.ev s = .int k a) (hy:y.ev s = .int k' b) (h:Um k a b=some v):yy s (.bin .shr x y)=some (.int k v):=by
 unfold Um at h
 split at h
 · cases h
 · rename_i h0;simp only [zn] at h;subst h
   simp only [yy,zx hx rfl,zx hy rfl,NP,J3,zy h0]
end
structure S1 (α0:Type) where
 a:α0
instance {α0:Type} [Enc α0]:Enc (S1 α0) where
 enc x:=.agg [Enc.enc x.a]
 dec | .agg [u0]=>match Enc.dec u0 with
       | some x0=>some ⟨x0⟩
       | _=>none
     | _=>none
 shp:=.ag [Enc.shp α0]
 dec_enc x:=by simp [Enc.dec_enc]
 enc_dec v x h:=by
  split at h
  · split at h
    · rename_i h0
      simp only [zn] at h;subst h
      simp [Enc.enc_dec _ _ h0]
    · cases h
  · cases h
 shape_enc x:=by simp [V.shape,V.shapes,Enc.shape_enc]
 erase_enc x:=by simp [V.erase,V.erases,Enc.erase_enc]
 toks_enc x:=by simp [V.toks,V.tokss,Enc.toks_enc]
 map_enc f x:=by simp [V.map,V.maps,Enc.map_enc]
 mem_enc _:=rfl
 own0 p x:=by simp [V.own,V.owns,Enc.own0]
 low0 x:=by simp [V.low,V.lows,Enc.low0]
 ret0 x:=by simp [V.ret,V.rets,Enc.ret0]
 tag0 d p x:=by simp [V.tag,V.tags,Enc.tag0]
 frz_enc K x:=by simp [V.frz,V.frzs,Enc.frz_enc]
 mut_enc t i q u x:=by simp [V.mut,V.muts,Enc.mut_enc]
structure S3 (α0 α1 α2:Type) where
 a:α0
 b:α1
 c:α2
instance {α0 α1 α2:Type} [Enc α0] [Enc α1] [Enc α2]:Enc (S3 α0 α1 α2) where
 enc x:=.agg [Enc.enc x.a,Enc.enc x.b,Enc.enc x.c]
 dec | .agg [u0,u1,u2]=>match Enc.dec u0,Enc.dec u1,Enc.dec u2 with
       | some x0,some x1,some x2=>some ⟨x0,x1,x2⟩
       | _,_,_=>none
     | _=>none
 shp:=.ag [Enc.shp α0,Enc.shp α1,Enc.shp α2]
 dec_enc x:=by simp [Enc.dec_enc]
 enc_dec v x h:=by
  split at h
  · split at h
    · rename_i h0 h1 h2
      simp only [zn] at h;subst h
      simp [Enc.enc_dec _ _ h0,Enc.enc_dec _ _ h1,Enc.enc_dec _ _ h2]
    · cases h
  · cases h
 shape_enc x:=by simp [V.shape,V.shapes,Enc.shape_enc]
 erase_enc x:=by simp [V.erase,V.erases,Enc.erase_enc]
 toks_enc x:=by simp [V.toks,V.tokss,Enc.toks_enc]
 map_enc f x:=by simp [V.map,V.maps,Enc.map_enc]
 mem_enc _:=rfl
 own0 p x:=by simp [V.own,V.owns,Enc.own0]
 low0 x:=by simp [V.low,V.lows,Enc.low0]
 ret0 x:=by simp [V.ret,V.rets,Enc.ret0]
 tag0 d p x:=by simp [V.tag,V.tags,Enc.tag0]
 frz_enc K x:=by simp [V.frz,V.frzs,Enc.frz_enc]
 mut_enc t i q u x:=by simp [V.mut,V.muts,Enc.mut_enc]
structure S4 (α0 α1 α2 α3:Type) where
 a:α0
 b:α1
 c:α2
 d:α3
instance {α0 α1 α2 α3:Type} [Enc α0] [Enc α1] [Enc α2] [Enc α3]:Enc (S4 α0 α1 α2 α3) where
 enc x:=.agg [Enc.enc x.a,Enc.enc x.b,Enc.enc x.c,Enc.enc x.d]
 dec | .agg [u0,u1,u2,u3]=>match Enc.dec u0,Enc.dec u1,Enc.dec u2,Enc.dec u3 with
       | some x0,some x1,some x2,some x3=>some ⟨x0,x1,x2,x3⟩
       | _,_,_,_=>none
     | _=>none
 shp:=.ag [Enc.shp α0,Enc.shp α1,Enc.shp α2,Enc.shp α3]
 dec_enc x:=by simp [Enc.dec_enc]
 enc_dec v x h:=by
  split at h
  · split at h
    · rename_i h0 h1 h2 h3
      simp only [zn] at h;subst h
      simp [Enc.enc_dec _ _ h0,Enc.enc_dec _ _ h1,Enc.enc_dec _ _ h2,Enc.enc_dec _ _ h3]
    · cases h
  · cases h
 shape_enc x:=by simp [V.shape,V.shapes,Enc.shape_enc]
 erase_enc x:=by simp [V.erase,V.erases,Enc.erase_enc]
 toks_enc x:=by simp [V.toks,V.tokss,Enc.toks_enc]
 map_enc f x:=by simp [V.map,V.maps,Enc.map_enc]
 mem_enc _:=rfl
 own0 p x:=by simp [V.own,V.owns,Enc.own0]
 low0 x:=by simp [V.low,V.lows,Enc.low0]
 ret0 x:=by simp [V.ret,V.rets,Enc.ret0]
 tag0 d p x:=by simp [V.tag,V.tags,Enc.tag0]
 frz_enc K x:=by simp [V.frz,V.frzs,Enc.frz_enc]
 mut_enc t i q u x:=by simp [V.mut,V.muts,Enc.mut_enc]
structure S5 (α0 α1 α2 α3 α4:Type) where
 a:α0
 b:α1
 c:α2
 d:α3
 e:α4
instance {α0 α1 α2 α3 α4:Type} [Enc α0] [Enc α1] [Enc α2] [Enc α3] [Enc α4]:Enc (S5 α0 α1 α2 α3 α4) where
 enc x:=.agg [Enc.enc x.a,Enc.enc x.b,Enc.enc x.c,Enc.enc x.d,Enc.enc x.e]
 dec | .agg [u0,u1,u2,u3,u4]=>match Enc.dec u0,Enc.dec u1,Enc.dec u2,Enc.dec u3,Enc.dec u4 with
       | some x0,some x1,some x2,some x3,some x4=>some ⟨x0,x1,x2,x3,x4⟩
       | _,_,_,_,_=>none
     | _=>none
 shp:=.ag [Enc.shp α0,Enc.shp α1,Enc.shp α2,Enc.shp α3,Enc.shp α4]
 dec_enc x:=by simp [Enc.dec_enc]
 enc_dec v x h:=by
  split at h
  · split at h
    · rename_i h0 h1 h2 h3 h4
      simp only [zn] at h;subst h
      simp [Enc.enc_dec _ _ h0,Enc.enc_dec _ _ h1,Enc.enc_dec _ _ h2,Enc.enc_dec _ _ h3,Enc.enc_dec _ _ h4]
    · cases h
  · cases h
 shape_enc x:=by simp [V.shape,V.shapes,Enc.shape_enc]
 erase_enc x:=by simp [V.erase,V.erases,Enc.erase_enc]
 toks_enc x:=by simp [V.toks,V.tokss,Enc.toks_enc]
 map_enc f x:=by simp [V.map,V.maps,Enc.map_enc]
 mem_enc _:=rfl
 own0 p x:=by simp [V.own,V.owns,Enc.own0]
 low0 x:=by simp [V.low,V.lows,Enc.low0]
 ret0 x:=by simp [V.ret,V.rets,Enc.ret0]
 tag0 d p x:=by simp [V.tag,V.tags,Enc.tag0]
 frz_enc K x:=by simp [V.frz,V.frzs,Enc.frz_enc]
 mut_enc t i q u x:=by simp [V.mut,V.muts,Enc.mut_enc]
structure S6 (α0 α1 α2 α3 α4 α5:Type) where
 a:α0
 b:α1
 c:α2
 d:α3
 e:α4
 f:α5
instance {α0 α1 α2 α3 α4 α5:Type} [Enc α0] [Enc α1] [Enc α2] [Enc α3] [Enc α4] [Enc α5]:Enc (S6 α0 α1 α2 α3 α4 α5) where
 enc x:=.agg [Enc.enc x.a,Enc.enc x.b,Enc.enc x.c,Enc.enc x.d,Enc.enc x.e,Enc.enc x.f]
 dec | .agg [u0,u1,u2,u3,u4,u5]=>match Enc.dec u0,Enc.dec u1,Enc.dec u2,Enc.dec u3,Enc.dec u4,Enc.dec u5 with
       | some x0,some x1,some x2,some x3,some x4,some x5=>some ⟨x0,x1,x2,x3,x4,x5⟩
       | _,_,_,_,_,_=>none
     | _=>none
 shp:=.ag [Enc.shp α0,Enc.shp α1,Enc.shp α2,Enc.shp α3,Enc.shp α4,Enc.shp α5]
 dec_enc x:=by simp [Enc.dec_enc]
 enc_dec v x h:=by
  split at h
  · split at h
    · rename_i h0 h1 h2 h3 h4 h5
      simp only [zn] at h;subst h
      simp [Enc.enc_dec _ _ h0,Enc.enc_dec _ _ h1,Enc.enc_dec _ _ h2,Enc.enc_dec _ _ h3,Enc.enc_dec _ _ h4,Enc.enc_dec _ _ h5]
    · cases h
  · cases h
 shape_enc x:=by simp [V.shape,V.shapes,Enc.shape_enc]
 erase_enc x:=by simp [V.erase,V.erases,Enc.erase_enc]
 toks_enc x:=by simp [V.toks,V.tokss,Enc.toks_enc]
 map_enc f x:=by simp [V.map,V.maps,Enc.map_enc]
 mem_enc _:=rfl
 own0 p x:=by simp [V.own,V.owns,Enc.own0]
 low0 x:=by simp [V.low,V.lows,Enc.low0]
 ret0 x:=by simp [V.ret,V.rets,Enc.ret0]
 tag0 d p x:=by simp [V.tag,V.tags,Enc.tag0]
 frz_enc K x:=by simp [V.frz,V.frzs,Enc.frz_enc]
 mut_enc t i q u x:=by simp [V.mut,V.muts,Enc.mut_enc]
structure Kd (k:IntKind) where
 v:Int
instance {k:IntKind}:Enc (Kd k) where
 enc x:=.int k x.v
 dec | .int k' x=>if k'=k then some ⟨x⟩ else none
     | _=>none
 shp:=.s
 dec_enc _:=by simp
 enc_dec v x h:=by
  split at h
  · split at h
    · rename_i e;simp only [zn] at h;subst h;subst e;rfl
    · cases h
  · cases h
 shape_enc _:=rfl
 erase_enc _:=rfl
 toks_enc _:=rfl
 map_enc _ _:=rfl
 mem_enc _:=rfl
 own0 _ _:=rfl
 low0 _:=rfl
 ret0 _:=rfl
 tag0 _ _ _:=rfl
 frz_enc _ _:=rfl
 mut_enc _ _ _ _ _:=rfl
instance {k:IntKind}:Ret (Kd k):=⟨Enc.enc⟩
section
variable {s:Nat→V}
theorem zj {tk:Tok} {i:Nat} {q:List Nat} {u:V} {t':Tok} {i':Nat} {q':List Nat} {c c':V} (ht:(tk == t')=false) (hs:(t' == .sh)=false) (hc:V.mut tk i q u c=c'):V.mut tk i q u (.ref t' i' q' c) = .ref t' i' q' c':=by
 have h1:tk≠t':=by simpa using ht
 cases t' with
 | sh=>simp at hs
 | _=>simp only [V.mut,hc];rw [zy (by rintro ⟨h,_⟩;exact h1 h)]
end
section
variable {s:Nat→V} {P:Program}
theorem zA {t:Nat} {v:V} (h:s t=v):JZ P s (.tmp t)=some v:=by simp only [JZ,h]
theorem yL {a t i:Nat} {tk:Tok} {q:List Nat} {c:V} (h:s a = .ref tk i q c) (hc:(match shT P 6 t with | some h=>c.shape.beq h && (Lb P t == some h.isAg && vD P t == some h.size) | none=>false)=true) :
    JZ P s (.cell a t)=some c:=by
 simp only [JZ,h]
 split at hc
 · rename_i h2;rw [h2];simp only [hc,z5]
 · cases hc
theorem rrA {x:ResultVar} {m:Nat} {al:Bool} {v r:V} (h:JZ P s x=some v) (hf:fin m al v=some r):RR P [x] m al r s:=by
 simp only [RR,N9,h,ze];exact hf
theorem rrB {x y:ResultVar} {m:Nat} {al:Bool} {u v r:V} (h:JZ P s x=some u) (h2:JZ P s y=some v) (hf:fin m al (.tup [u,v])=some r):RR P [x,y] m al r s:=by
 simp only [RR,N9,h,h2,ze];exact hf
structure ziD (vs rs:List V):Prop where
 own:∀ p i,V.owns p 0 i vs=some []
 ret:V.rets 0 vs=rs
end
theorem xg:ziD [] []:=⟨fun _ _=>rfl,rfl⟩
theorem zW {v r:V} {vs rs:List V} (h:zcM v r) (hs:ziD vs rs):ziD (v :: vs) (r :: rs):=⟨fun p i=>by simp [V.owns,h.own,hs.own],by simp [V.rets,h.ret,hs.ret]⟩
theorem uB {vs rs:List V} (h:ziD vs rs):zcM (.agg vs) (.agg rs):=⟨fun p=>by simp [V.own,h.own],by simp [V.ret,h.ret]⟩
theorem uH {vs rs:List V} (h:ziD vs rs):zcM (.tup vs) (.tup rs):=⟨fun p=>by simp [V.own,h.own],by simp [V.ret,h.ret]⟩
def zcn (s:Nat→V) (d:Nat) (o:Option O) (n:Int):Prop:=match o with
 | none=>n=d
 | some x=>∃ k,x.ev s = .int k n
theorem u9 {s:Nat→V} {d:Nat}:zcn s d none d:=rfl
theorem Ze {s:Nat→V} {d:Nat} {x:O} {k:IntKind} {n:Int} (h:x.ev s = .int k n):zcn s d (some x) n:=⟨k,h⟩
theorem Lh {s:Nat→V} {d:Nat} {o:Option O} {n:Int} (h:zcn s d o n) (h0:0≤n):YY s d o=some n.toNat:=by
 cases o with
 | none=>simp only [zcn] at h;subst h;simp [YY]
 | some x=>obtain ⟨k,h⟩:=h;simp [YY,zx h rfl,h0]
theorem X2 {α:Type} [Enc α] {s:Nat→V} {x:O} {lo hi:Option O} {e:Nat} {xs ys:List α} {a b:Int} (hx:x.ev s = .sl .sh (Enc.shp α) 0 (xs.map Enc.enc)) (hl:zcn s 0 lo a) (hh:zcn s xs.length hi b) (h:sub xs a b=some ys)
    (he:(Enc.shp α).size=e):yy s (.slice x lo hi e)=some (.sl .sh (Enc.shp α) 0 (ys.map Enc.enc)):=by
 unfold sub at h
 split at h
 · rename_i hb
   simp only [zn] at h;subst h
   simp only [yy,zx hx rfl,Lh hl hb.1,uz]
   rw [Lh hh (by omega)]
   simp only [he]
   rw [if_pos (by simp [Tok.isBx];omega)]
   simp [List.map_take,List.map_drop]
 · cases h
open Go.RowKit Go.ChangeShapes Go.Deep
def zcj (P:Program) (t:TypeId) (α:Type) [Enc α] (ok:α→Prop):Prop:=
 P.cellsOf t=(Enc.shp α).size ∧
 ∀ {H:Type} (en:TypeId×Value→H) (W:World) (fuel:Nat) (cs:List Value) (x:DataW H×List MemPlace),DataW.trod en P W 0 (fun _=>true) true fuel t cs=some x →
  ∃ a:α,ok a∧∀ (S:Nat→Prop) (τ:Tok→Blk),(∀ b,b < W.heap.size→S b)→zT W S τ (Enc.enc a) cs
variable {P:Program} {t:TypeId}
theorem Lm {α:Type} [Enc α] {w:World} {S:Nat→Prop} {τ:Tok→Blk}:∀ (xs:List α) (L:List Value),L.length=xs.length * (Enc.shp α).size →
    (∀ i a,xs[i]?=some a→zT w S τ (Enc.enc a) ((L.drop (i * (Enc.shp α).size)).take (Enc.shp α).size))→yC w S τ (xs.map Enc.enc) L
 | [],L,hl,_=>by simp only [List.map_nil,yC];simpa using hl
 | x :: xs,L,hl,h=>by
   simp only [List.map_cons,yC,Enc.shape_enc]
   refine ⟨by simpa using h 0 x rfl,Lm xs _ ?_ ?_⟩
   · rw [List.length_drop,hl,ZK,Nat.succ_mul];omega
   · intro i a ha
     have:=h (i + 1) a (by simpa using ha)
     rw [List.drop_drop]
     rwa [show (Enc.shp α).size + i * (Enc.shp α).size=(i + 1) * (Enc.shp α).size by rw [Nat.succ_mul];omega]
theorem zd7 {α:Type} [Enc α] {oa:α→Prop} {e:TypeId} (ht:P.underlying t=some (.slice e)) (h0:zcj P e α oa) (hc:P.cellsOf t=1) (hp:0 < (Enc.shp α).size) :
    zcj P t (List α) (fun xs=>xs.length≤maxLen∧∀ x∈xs,oa x):=by
 refine ⟨hc,?_⟩
 intro H en W fuel cs x h
 rcases open_slice ht h with ⟨rfl,_⟩ | ⟨a,len,cap,m,n,D,Pl,rfl,_,hl,hm,hmm,_,hx⟩
 · exact ⟨[],⟨Nat.zero_le _,by simp⟩,fun S τ _=>by simp only [Enc.enc,zT,List.map_nil];exact ⟨_,0,rfl,Nat.zero_le _,by simp,fun _=>rfl,.inl rfl⟩⟩
 · simp only [z5] at hmm
   subst hmm
   rw [h0.1] at hx
   have hx2:∀ i,i < m→∃ cs',W.cells? 0 (a.add (i * (Enc.shp α).size)) (Enc.shp α).size=some cs'∧∃ y:α,oa y∧∀ (S:Nat→Prop) (τ:Tok→Blk),(∀ b,b < W.heap.size→S b)→zT W S τ (Enc.enc y) cs':=by
    intro i hi
    obtain ⟨cs',h1,h2⟩:=hx i hi
    exact ⟨cs',h1,h0.2 en W n _ _ h2⟩
   by_cases hcap:m=0
   · subst hcap
     obtain rfl:len=0:=by omega
     exact ⟨[],⟨Nat.zero_le _,by simp⟩,fun S τ _=>by simp only [Enc.enc,zT,List.map_nil];exact ⟨_,0,rfl,Nat.zero_le _,by simp,fun _=>rfl,.inl rfl⟩⟩
   obtain ⟨cs0,hc0,_⟩:=hx2 0 (by omega)
   simp only [Nat.zero_mul] at hc0
   obtain ⟨_,hl0,hg0⟩:=World.cells?_some hc0
   have hz:=hg0 0 hp
   have hz1:cs0[0]?=some (cs0[0]'(by omega)):=yW (by omega)
   rw [hz1] at hz
   have ha0:(a.add 0).add 0=a:=by simp [Addr.add]
   rw [ha0] at hz
   unfold World.cell? at hz
   split at hz
   · rename_i arr ty fz hheap
     split at hz
     · cases hz
     · rename_i hspot
       have hsp:a.spot=none:=by cases h:a.spot <;> simp_all
       have hadd:∀ k,a.add k=⟨a.block,a.off + k,none⟩:=by
        intro k;unfold Addr.add;split
        · rename_i hk;subst hk;cases a;simp_all
        · rfl
       have hcell:∀ k,W.cell? (a.add k)=arr[a.off + k]?:=by
        intro k;rw [hadd];simp [World.cell?,hheap]
       have hget:∀ i,i < m→∀ cs',W.cells? 0 (a.add (i * (Enc.shp α).size)) (Enc.shp α).size=some cs'→cs'.length=(Enc.shp α).size∧∀ j,j < (Enc.shp α).size→arr[a.off + (i * (Enc.shp α).size + j)]?=cs'[j]?:=by
        intro i hi cs' hcs
        obtain ⟨_,h1,h2⟩:=World.cells?_some hcs
        refine ⟨h1,fun j hj=>?_⟩
        rw [← h2 j hj,add_add,hcell]
       have hsize:a.off + m * (Enc.shp α).size≤arr.size:=by
        obtain ⟨cs',h1,_⟩:=hx2 (m - 1) (by omega)
        obtain ⟨h2,h3⟩:=hget (m - 1) (by omega) cs' h1
        have h4:=h3 ((Enc.shp α).size - 1) (by omega)
        rw [yW (by omega)] at h4
        obtain ⟨h5,_⟩:=Array.getElem?_eq_some_iff.1 h4
        have:m * (Enc.shp α).size=(m - 1) * (Enc.shp α).size + (Enc.shp α).size:=by
         rw [← Nat.succ_mul];congr 1;omega
        omega
       have hch:∀ i,i < m→∃ y:α,oa y∧∀ (S:Nat→Prop) (τ:Tok→Blk),(∀ b,b < W.heap.size→S b)→zT W S τ (Enc.enc y) ((arr.toList.drop (a.off + i * (Enc.shp α).size)).take (Enc.shp α).size):=by
        intro i hi
        obtain ⟨cs',h1,y,h2,h3⟩:=hx2 i hi
        obtain ⟨h4,h5⟩:=hget i hi cs' h1
        have:((arr.toList.drop (a.off + i * (Enc.shp α).size)).take (Enc.shp α).size)=cs':=by
         apply List.ext_getElem?
         intro j
         by_cases hj:j < (Enc.shp α).size
         · rw [List.getElem?_take_of_lt hj,List.getElem?_drop,← h5 j hj];simp [Nat.add_assoc]
         · rw [Z3 (by simp;omega),Z3 (by omega)]
        exact ⟨y,h2,by rw [this];exact h3⟩
       have hb:a.block < W.heap.size:=by
        obtain ⟨h5,_⟩:=Array.getElem?_eq_some_iff.1 hheap;exact h5
       have hall:∀ k,k≤m→∃ ys:List α,ys.length=k∧(∀ y∈ys,oa y)∧∀ (S:Nat→Prop) (τ:Tok→Blk),(∀ b,b < W.heap.size→S b)→∀ i y,ys[i]?=some y→zT W S τ (Enc.enc y) ((arr.toList.drop (a.off + i * (Enc.shp α).size)).take (Enc.shp α).size):=by
        intro k
        induction k with
        | zero=>intro _;exact ⟨[],rfl,by simp,by simp⟩
        | succ k ih=>
          intro hk
          obtain ⟨ys,h1,h2,h3⟩:=ih (by omega)
          obtain ⟨y,h4,h5⟩:=hch k (by omega)
          refine ⟨ys++[y],by simp [h1],?_,?_⟩
          · intro z hz;rcases zO.1 hz with hz | hz
            · exact h2 z hz
            · simp at hz;subst hz;exact h4
          · intro S τ hS i z hz
            by_cases hi:i < k
            · rw [W3 (by omega)] at hz;exact h3 S τ hS i z hz
            · rw [List.getElem?_append_right (by omega)] at hz
              have:i=k:=by
               have:=(List.getElem?_eq_some_iff.1 hz).1;simp at this;omega
              subst this
              simp [h1] at hz;subst hz;exact h5 S τ hS
       obtain ⟨ys,h1,h2,h3⟩:=hall len hl
       refine ⟨ys,⟨by omega,h2⟩,fun S τ hS=>?_⟩
       have hh:=h3 S τ hS
       simp only [Enc.enc,zT,uz,h1]
       refine ⟨some a,m,rfl,hl,?_,fun _=>yl _,.inr ⟨a.block,a.off,arr,ty,fz,?_,hheap,hS _ hb,hsize,?_⟩⟩
       · intro v hv;obtain ⟨y,_,rfl⟩:=yX.1 hv;exact Enc.shape_enc y
       · cases a;simp_all
       · have hmul:len * (Enc.shp α).size≤m * (Enc.shp α).size:=ud _ hl
         refine Lm ys _ ?_ ?_
         · simp [h1];omega
         · intro i y hy
           have hi:i < len:=by have:=(List.getElem?_eq_some_iff.1 hy).1;omega
           have h7:=hh i y hy
           have hmi:(i + 1) * (Enc.shp α).size≤len * (Enc.shp α).size:=ud _ hi
           rw [Nat.succ_mul] at hmi
           rw [List.drop_take,List.take_take,List.drop_drop,Nat.min_eq_left (by omega)]
           exact h7
   · cases hz
end Go.Zq
namespace Go.Zq
open Go.RowKit Go.ChangeShapes Go.WideShapes Go.ChangeAt Go.Deep
section
variable {H:Type} {en:TypeId×Value→H} {P:Program} {W W':World}
theorem KI (hl:laidOutB P=true) (hb:Below W.heap.size W W'):∀ (ts:List TypeId) (vs:List Value) (ds:List (DataW H)) (p:List MemPlace),(∀ t∈ts,P.readableRec t=true∧t < P.types.size) →
    DataW.TrodAll en P W 0 (fun _=>true) true ts vs ds p→DataW.TrodAll en P W' 0 (fun b=>decide (b < W.heap.size)) true ts vs ds p
 | [],[],[],p,_,h=>h
 | t :: ts,v :: vs,d :: ds,p,hts,h=>by
   obtain ⟨p1,q,h1,h2,rfl⟩:=h
   have ht:=hts t (by simp)
   refine ⟨p1,q,Below.trod hl ht.1 ht.2 h1 hb ?_,KI hl hb ts vs ds q (fun t ht=>hts t (by simp [ht])) h2,rfl⟩
   obtain ⟨m,hm⟩:=h1
   exact DataW.trod_lt m _ _ _ hm
 | [],_ :: _,_,_,_,h=>h.elim
 | [],[],_ :: _,_,_,h=>h.elim
 | _ :: _,[],_,_,_,h=>h.elim
 | _ :: _,_ :: _,[],_,_,h=>h.elim
theorem Mq:∀ (ts:List TypeId) (vs:List Value) (ds:List (DataW H)) (p:List MemPlace) (base:Nat) (sp:Nat→Bool) (hd:Bool),DataW.TrodAll en P W base sp hd ts vs ds p→ds.length=ts.length
 | [],[],[],p,_,_,_,h=>rfl
 | t :: ts,v :: vs,d :: ds,p,_,_,_,h=>by
   obtain ⟨p1,q,h1,h2,rfl⟩:=h
   simp [Mq ts vs ds q _ _ _ h2]
 | [],_ :: _,_,_,_,_,_,h=>h.elim
 | [],[],_ :: _,_,_,_,_,h=>h.elim
 | _ :: _,[],_,_,_,_,_,h=>h.elim
 | _ :: _,_ :: _,[],_,_,_,_,h=>h.elim
def MD (P:Program) (W:World) (us:List V) (vs:List Value):Prop:=V.tokss us=[]∧∀ (S:Nat→Prop) (τ:Tok→Blk),(∀ b,b < W.heap.size→S b)→yB W S τ us vs
theorem zhm:MD P W [] []:=⟨rfl,fun _ _ _=>by simp [yB]⟩
theorem zgj {α:Type} [Enc α] {a:α} {v:Value} {us:List V} {vs:List Value} (h:∀ (S:Nat→Prop) (τ:Tok→Blk),(∀ b,b < W.heap.size→S b)→zR W S τ (Enc.enc a) v) (hs:MD P W us vs):MD P W (Enc.enc a :: us) (v :: vs):=
 ⟨by simp [V.tokss,Enc.toks_enc,hs.1],fun S τ hS=>by simp only [yB];exact ⟨v,vs,rfl,h S τ hS,hs.2 S τ hS⟩⟩
def zmG:Option TypeDesc→Bool
 | some (.slice _) | some (.int _) | some .bool=>true
 | _=>false
theorem zkC {α:Type} [Enc α] {ok:α→Prop} {t:TypeId} {v:Value} {d:DataW H} {p:List MemPlace} {base:Nat} (ho:zcj P t α ok) (hn:∀ a:α,(Enc.enc a).isAgg=false) (hu:zmG (P.underlying t)=true)
    (hv:Value.okWide P W .any base t v) (hd:DataW.Trod en P W 0 (fun _=>true) true t v d p):∃ a:α,ok a∧∀ (S:Nat→Prop) (τ:Tok→Blk),(∀ b,b < W.heap.size→S b)→zR W S τ (Enc.enc a) v:=by
 obtain ⟨m,hm⟩:=hd
 obtain ⟨a,ha,hr⟩:=ho.2 en W m _ _ hm
 refine ⟨a,ha,fun S τ hS=>?_⟩
 have h1:=hr S τ hS
 have hc:v.cells.toList=[v]:=by
  unfold zmG at hu
  split at hu
  · rename_i e he;obtain ⟨_,_,_,rfl⟩:=okWide_slice he hv;rfl
  · rename_i e he;obtain ⟨_,rfl⟩:=okWide_int he hv;rfl
  · rename_i he;obtain ⟨_,rfl⟩:=okWide_bool he hv;rfl
  · cases hu
 rw [hc] at h1
 have h2:=hn a
 generalize Enc.enc a=u at h1 h2
 cases u <;> first | (simp only [zT] at h1;exact h1.elim) | (simp only [zR];exact h1) | (simp [V.isAgg] at h2;done) | (simp only [zT] at h1;simp only [zR];simpa using h1) | trivial
theorem zjJ {C:Checked} {os:Os} {s:ChangeSpec} {f:FuncId} {fn:Func} {conds:List PathCond} {tb:TypeId} (own:ownKnob C.prog.godebug=none) (started:os.Started) (noInit:C.prog.inits.idxOf? f=none) (hfn:C.prog.funcs[f]?=some fn)
    (witness:∃ (w:World) (tape:Tape) (i:Input),w.os=os∧(w.forCall tape i).Shaped C.prog∧i.vars=[]∧Input.okWide C.prog (w.forCall tape i) .any w.heap.size f i ∧
      s.pre6 en C.prog fn conds false (w.forCall tape i).memory i.args∧({}:Assume).holds C.prog (lone (Frame.enter C.prog f i.args .normal) [] (w.forCall tape i)))
    (hvars:s.vars=[]) (hspec:∀ ds:List (DataW H),ds.length=fn.params.size→(s.fn H ds).results=[.lit (.bool true)]∧(s.fn H ds).args=ds∧(s.fn H ds).vars=[])
    (hres:fn.resultTypes=#[tb]) (hb:C.prog.underlying tb=some .bool) (hl:laidOutB C.prog=true) (hts:fn.params.toList.all (fun t=>C.prog.readableRec t && decide (t < C.prog.types.size))=true)
    (hrun:∀ (W:World) (args:Array Value) (ds:List (DataW H)) (p:List MemPlace) (base:Nat),(∀ (j:Nat) t v,fn.params[j]?=some t→args[j]?=some v→Value.okWide C.prog W .any base t v) →
      DataW.TrodAll en C.prog W 0 (fun _=>true) true fn.params.toList args.toList ds p→∃ us,MD C.prog W us args.toList∧Xz C.prog f 0 false us (.bool true)) :
    ReturnsInHanded {} C os f .any (s.pre6 en C.prog fn conds false) (s.post en C.prog fn false true false false):=by
 refine returnsInHanded_of_change_sized (C:=C) own started noInit hfn witness ?_
 intro W base args ds gs before hval hW hcnd hsz _
 have hW':=hW
 obtain ⟨p,q,hA,hV,rfl,hfz,hnd⟩:=hW
 rw [hvars] at hV
 obtain ⟨rfl,rfl⟩:=trodVars_none hV
 obtain ⟨us,hus,hcon⟩:=hrun W args ds p base hval hA
 refine (hcon 0 W (fun b=>b < W.heap.size) (fun _=>⟨0,0,.s⟩) args (fun b hb=>hb) (hus.2 _ _ fun b hb=>hb) hus.1).mono fun e W' he=>?_
 obtain ⟨v,τ',rfl,bel,_,_,hrel⟩:=he
 simp only [V.tag,zR] at hrel
 subst hrel
 have hs:=hspec ds (by have:=Mq _ _ _ _ _ _ _ hA;simpa using this)
 have hds:ds++[]=ds:=xy ds
 refine ⟨.bool true,rfl,ds,[],_,[],p,[],hW',?_,?_,?_,bel.frame _,fun h=>by cases h⟩
 · rw [hds,hs.1,hres]
   exact ⟨[],[],⟨1,by simp [DataW.trod,hb,Value.cells]⟩,rfl,rfl⟩
 · rw [hds,hs.2.1]
   refine KI hl bel _ _ _ _ ?_ hA
   intro t ht
   have:=yN.1 hts t ht
   simpa using this
 · rw [hds,hs.2.2,hvars];rfl
end
end Go.Zq
namespace Go.Zq
section
variable {K:List Tok}
theorem zM {α:Type} [Enc α] {r:Nat} {p:List Nat} {xs:List α}:(zh (.at r p) (.of xs)).toks=[.at r p]:=by
 simp only [zh,V.toks,yl]
 split <;> rfl
theorem Xo {α:Type} [Enc α] {r:Nat} {p:List Nat} {xs:List α}:V.frz [.at r p] (zh (.at r p) (.of xs))=Enc.enc xs:=by
 simp [zh,V.frz,yl,Z8,Enc.enc]
theorem Qb {α:Type} [Enc α]:∀ xs:List α,V.frzs K (xs.map Enc.enc)=xs.map Enc.enc
 | []=>rfl
 | x :: xs=>by simp [V.frzs,Enc.frz_enc,Qb xs]
theorem zdu {α:Type} [Enc α] {t:Tok} {o:NL α} (hn:K.contains t=false) (hl:K.contains .nl=false):V.frz K (zh t o)=zh t o:=by
 cases o with
 | nil=>simp only [zh,V.frz,hl,V.frzs];simp
 | of xs=>cases t <;> simp only [zh,V.frz,hn,Qb] <;> simp
theorem Ja {vs us:List V} (h:V.frzs K vs=us):V.frz K (.agg vs) = .agg us:=by simp only [V.frz,h]
theorem vk {v u:V} {vs us:List V} (h:V.frz K v=u) (hs:V.frzs K vs=us):V.frzs K (v :: vs)=u :: us:=by simp only [V.frzs,h,hs]
theorem wO {t:Tok} {i:Nat} {q:List Nat} {c u:V} (hn:K.contains t=false) (h:V.frz K c=u) (hs:(t == .sh)=false):V.frz K (.ref t i q c) = .ref t i q u:=by
 cases t with
 | sh=>simp at hs
 | _=>simp only [V.frz,hn,h];simp
end
mutual
theorem Z7:∀ v:V,V.frz [] v=v
 | .dead | .gone | .int .. | .bool _=>rfl
 | .sl t h lo xs=>by
   have:=WI xs
   cases t <;> simp [V.frz,this]
 | .ref t i q c=>by
   have:=Z7 c
   cases t <;> simp [V.frz,this]
 | .agg vs=>by simp [V.frz,WI vs]
 | .tup vs=>by simp [V.frz,WI vs]
 | .fn g fs env=>by simp [V.frz,WI fs,WI env]
 | .lin v=>by simp [V.frz,Z7 v]
theorem WI:∀ vs:List V,V.frzs [] vs=vs
 | []=>rfl
 | v :: vs=>by simp [V.frzs,Z7 v,WI vs]
end
section
variable {D:Den} {σ:Sig} {s:Nat→V} {K:(Nat→V)→Prop} {is:List I}
theorem zaP {d:Nat} {z:V} {len:Nat} {ps:List (Nat×Nat×O)} (L:List (Nat×V)) (vs:List V) (hs:zB L s) (h:xX (LC L) ps (List.replicate len z)=some vs)
    (hr:((ps.flatMap fun p=>p.2.2.rds).all fun k=>L.any fun x=>x.1 == k)=true) (hg:s d = .gone)
    (H:goK D σ is (upd s d (.lin (.sl (.at d []) z.shape 0 vs))) K):goK D σ (⟨some d,none,true,.lit z len ps⟩ :: is) s K:=by
 have h1:xX s ps (List.replicate len z)=some vs:=by
  rw [vy (s2:=LC L) fun k hk=>Lj L s hs k (yN.1 hr k hk)];exact h
 simp only [goK,xK,yY,h1,hg]
 simp only [z5]
 exact H
theorem U5 {α:Type} [Enc α] {d r:Nat} {p:List Nat} {l:Bool} {g:Sh} {xs ys zs:List α} {y:O} {t2:Tok} {lo2:Nat} (hx:s r = .lin (zh (.at r p) (.of xs))) (hy:y.ev s = .sl t2 (Enc.shp α) lo2 (ys.map Enc.enc))
    (hgg:g=Enc.shp α) (hg:s d = .gone) (hd:(d == r)=false) (ha:vh xs ys=some zs)
    (H:goK D σ is (upd (upd s r .dead) d (if l then .lin (zh (.at d []) (.of zs)) else zh (.at d []) (.of zs))) K):goK D σ (⟨some d,none,l,.appS g (.t r) y⟩ :: is) s K:=by
 subst hgg
 unfold vh at ha
 split at ha
 · rename_i hlen
   simp only [zn] at ha;subst ha
   have hsp:Wl s (.t r)=some (upd s r .dead,.sl (.at r p) (Enc.shp α) 0 (xs.map Enc.enc)):=by
    simp only [Wl];rw [hx];simp only [zh,yl,List.isEmpty_nil,Bool.and_true,decide_true,z5]
   have hgd:upd s r .dead d = .gone:=by
    rw [zX _ _ (by simpa using hd)];exact hg
   simp only [goK,xK,yY,hsp,zx hy rfl,hgd,Sh.beq_refl,yl,List.isEmpty_nil,Bool.or_true,z6]
   rw [if_pos (by simpa using hlen)]
   have e:KC d (.at r p) (Enc.shp α) (xs.map Enc.enc) (ys.map Enc.enc)=zh (.at d []) (.of (xs++ys)):=by
    simp [KC,zh]
   rw [e]
   cases l with
   | true=>simpa using H
   | false=>simpa using H
 · cases ha
theorem YR {α:Type} [Enc α] {t:Tok} {o:NL α}:(zh t o).ok=true:=by cases o <;> rfl
theorem Uo {x:O} {v:V} (h:x.ev s=v) (hk:v.ok=true):yy s (.mov x)=some v:=by simp only [yy,zx h hk]
theorem w7 {α:Type} [Enc α] {t:Tok} {o:NL α}:(zh t o).shape.beq .p=true:=by cases o <;> rfl
theorem xm {x:O} {t:Tok} {i:Nat} {q:List Nat} {c:V} {g:Sh} (h:x.ev s = .ref t i q c) (hc:c.shape.beq g=true):yy s (.load g x)=some c:=by simp only [yy,zx h rfl,hc,z5]
end
class Arg (α:Type) where
 arg:α→V
 un:V→Option α
 un_arg:∀ x,un (arg x)=some x
 arg_un:∀ v x,un v=some x→arg x=v
instance {α:Type} [Enc α]:Arg α:=⟨Enc.enc,Enc.dec,Enc.dec_enc,Enc.enc_dec⟩
structure Rf (α:Type) where
 v:α
instance {α:Type} [Arg α]:Arg (Rf α) where
 arg x:=.ref .sh 0 [] (Arg.arg x.v)
 un
  | .ref .sh 0 [] u=>(Arg.un u).map Rf.mk
  | _=>none
 un_arg x:=by simp [Arg.un_arg]
 arg_un v x h:=by
  split at h
  · simp only [ye] at h
    obtain ⟨y,h1,rfl⟩:=h
    simp [Arg.arg_un _ _ h1]
  · cases h
class Xx (α:Type) where
 args:α→List V
 uns:List V→Option α
 uns_args:∀ x,uns (args x)=some x
 args_uns:∀ v x,uns v=some x→args x=v
instance:Xx Unit where
 args _:=[]
 uns
  | []=>some ()
  | _=>none
 uns_args _:=rfl
 args_uns v x h:=by cases v <;> simp_all
instance {α β:Type} [Arg α] [Xx β]:Xx (α×β) where
 args x:=Arg.arg x.1 :: Xx.args x.2
 uns
  | v :: vs=>(Arg.un v).bind fun x=>(Xx.uns vs).map fun y=>(x,y)
  | []=>none
 uns_args x:=by simp [Arg.un_arg,Xx.uns_args]
 args_uns v x h:=by
  split at h
  · simp only [Option.bind_eq_some_iff,ye] at h
    obtain ⟨y,h1,z,h2,rfl⟩:=h
    simp [Arg.arg_un _ _ h1,Xx.args_uns _ _ h2]
  · cases h
structure Cl (g:Nat) (α β:Type) where
 fs:α
 env:β
instance {g:Nat} {α β:Type} [Xx α] [Xx β]:Arg (Cl g α β) where
 arg x:=.fn g (Xx.args x.fs) (Xx.args x.env)
 un
  | .fn g' us vs=>if g'=g then (Xx.uns us).bind fun x=>(Xx.uns vs).map fun y=>⟨x,y⟩ else none
  | _=>none
 un_arg x:=by simp [Xx.uns_args]
 arg_un v x h:=by
  split at h
  · split at h
    · rename_i e
      simp only [Option.bind_eq_some_iff,ye] at h
      obtain ⟨y,h1,z,h2,rfl⟩:=h
      simp [Xx.args_uns _ _ h1,Xx.args_uns _ _ h2,e]
    · cases h
  · cases h
def da {α γ:Type} [Xx α] (f:α→Option γ) (t:γ→V) (args:List V):Option V:=(Xx.uns args).bind fun x=>(f x).map t
theorem zhd {α γ:Type} [Xx α] {f:α→Option γ} {t:γ→V} (x:α) {r:γ} (h:f x=some r):da f t (Xx.args x)=some (t r):=by simp [da,Xx.uns_args,h]
theorem MM {α γ:Type} [Xx α] {f:α→Option γ} {t:γ→V} {args:List V} {r:V} (h:da f t args=some r):∃ x y,args=Xx.args x∧f x=some y∧r=t y:=by
 simp only [da,Option.bind_eq_some_iff,ye] at h
 obtain ⟨x,h1,y,h2,rfl⟩:=h
 exact ⟨x,y,(Xx.args_uns _ _ h1).symm,h2,rfl⟩
def zsA:List (Nat×Nat)→List V→Bool
 | [],_=>true
 | (i,g) :: L,args=>(match args[i]? with
   | some (.fn g' _ _)=>g' == g
   | _=>false) && zsA L args
section
variable {D:Den} {σ:Sig} {s:Nat→V} {K:(Nat→V)→Prop} {is:List I}
theorem MV {d g m:Nat} {al:Bool} {x:O} {fs env us ws:List V} {as:List O} {r:V} (hx:x.ev s = .fn g fs env) (hfs:V.erases fs=us) (henv:V.erases env=ws) (h1:env.all V.one=true)
    (vs:List V) (hv:xO as s=some (vs,s)) (hD:D g (us++vs++ws)=some r) (hσ:σ g=some (m,al)) (hal:(al && !((xQ s as).isEmpty && (V.fn g fs env).toks.isEmpty))=false)
    (hr:r.toks=[]) (ht:(V.tag d [] m r).toks=[]) (hok:(V.tag d [] m r).ok=true) (H:goK D σ is (upd s d (V.tag d [] m r)) K) (hmp:Nat.ble zP m=false:=by rfl) (hgm:Nat.ble Xv g=false:=by rfl):goK D σ (⟨some d,none,false,.call x as⟩ :: is) s K:=by
 subst hfs;subst henv
 have hal':¬ ((al && !((xQ s as).isEmpty && (V.fn g fs env).toks.isEmpty))=true):=by rw [hal];simp
 simp only [goK,xK,yY,KF,zx hx rfl,hv,key,zo,hD,hσ,hgm,yD,yb]
 rw [zy hal']
 simp only [hr,hmp,Ym,h1,List.isEmpty_nil,wT,z5,y3,place,ht,hok,put]
 exact H
theorem UZ {g:Nat} {fs env us vs:List V} (h:V.erases fs=us) (h2:V.erases env=vs):(V.fn g fs env).erase = .fn g us vs:=by simp only [V.erase,h,h2]
theorem Xg {t:Tok} {i:Nat} {q:List Nat} {c u:V} (h:c.erase=u):(V.ref t i q c).erase = .ref .sh 0 [] u:=by simp only [V.erase,h]
theorem zgX {vs us:List V} (h:V.erases vs=us):(V.agg vs).erase = .agg us:=by simp only [V.erase,h]
theorem xD:V.erases []=[]:=rfl
theorem vg {v u:V} {vs us:List V} (h:v.erase=u) (hs:V.erases vs=us):V.erases (v :: vs)=u :: us:=by simp only [V.erases,h,hs]
theorem zea {f:Tok→Option Tok} {g:Nat} {fs env us vs:List V} (h:V.maps f fs=us) (h2:V.maps f env=vs):V.map f (.fn g fs env) = .fn g us vs:=by simp only [V.map,h,h2]
theorem zhr {t:Tok} {i:Nat} {q:List Nat} {u:V} {g:Nat} {fs env us vs:List V} (h:V.muts t i q u fs=us) (h2:V.muts t i q u env=vs):V.mut t i q u (.fn g fs env) = .fn g us vs:=by simp only [V.mut,h,h2]
theorem Yx {v r:V} (h:zcM v r) (hm:v.mine=true):fin 0 false v=some r:=by
 simp only [fin,h.own,List.map_nil,List.all_nil,hm,Bool.or_true,Bool.and_true,h.ret]
 simp
theorem vR {α:Type} [Enc α] {r:Nat} {p:List Nat} {o:NL α} (hf:(Enc.shp α).flat=true):(zh (.at r p) o).mine=true:=by
 cases o <;> simp [zh,V.mine,hf]
theorem UT {vs:List V} (h:V.mines vs=true):(V.agg vs).mine=true:=by simp only [V.mine,h]
theorem WD:V.mines []=true:=rfl
theorem Zw {v:V} {vs:List V} (h:v.mine=true) (hs:V.mines vs=true):V.mines (v :: vs)=true:=by simp only [V.mines,h,hs,wT]
end
open Go.RowKit Go.ChangeShapes Go.Deep
end Go.Zq
