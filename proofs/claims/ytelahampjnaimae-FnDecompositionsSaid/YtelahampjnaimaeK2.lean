/- The pure machine (part 2). No further condition. -/
import Derived.Test.YtelahampjnaimaeK1
set_option linter.unusedVariables false
set_option linter.unusedSimpArgs false
namespace Go.Zq
section
variable {P:Program} {w0:Ori} {S0:Nat→Prop} {n:Nat} {s s1:Nat→V} {a:Act} {w:World} {S:Nat→Prop} {τ:Tok→Blk}
def KC (d:Nat) (t:Tok) (g:Sh) (xs ys:List V):V:=if t = .nl∧ys=[] then .sl .nl g 0 [] else .sl (.at d []) g 0 (xs++ys)
theorem J4 {N:Nat→Prop} {w1 w:World} (h:Bel N w1 w) (k:Nat):Bel N w1 { w with drawn:=k }:=⟨h.os,h.tape,h.output,h.size,h.block,h.rows⟩
theorem Xs:∀ xs ys:List V,V.tokss (xs++ys)=V.tokss xs++V.tokss ys
 | [],ys=>rfl
 | x :: xs,ys=>by simp [V.tokss,Xs xs ys]
theorem NX (L:List Value) (i j k:Nat):((L.drop i).take (j + k)).take j=(L.drop i).take j∧((L.drop i).take (j + k)).drop j=(L.drop (i + j)).take k:=by
 constructor
 · rw [List.take_take,Nat.min_eq_left (by omega)]
 · rw [List.drop_take,List.drop_drop,Nat.add_sub_cancel_left]
theorem Inv.append (h:Inv w0 S0 n s a w S τ) {x y:O} {X Y:Operand} {hx hy:Sh} (hxo:cO hx X=some x) (hyo:cO hy Y=some y) {t t2:Tok} {g:Sh} {lo lo2:Nat} {xs ys:List V}
    (hs:Zq.spent s x=some (s1,.sl t g lo xs)) (hyr:y.rd s=some (.sl t2 g lo2 ys)) (htt:t∉(V.sl t2 g lo2 ys).toks∨V.tokss ys=[]) {d:Nat} (hd:d < n) (hg:s1 d = .gone) (l:Bool)
    {ta tb e eb ty:TypeId} {info:TypeInfo} {z:Value} (hua:P.underlying ta=some (.slice e)) (hub:P.underlying tb=some (.slice eb)) (hi:P.info? e=some info) (hz:info.zero=some z) (hsz:info.size=g.size) (hzs:z.cells.size=info.size) (hbytes:0 < info.bytes∧info.bytes≤64)
    (hlen:xs.length + ys.length≤2 ^ 40) :
    ∃ c w' τ',(Builtin.append_ #[ta,tb] ty #[a.eval X,a.eval Y]).run P w = .ok c w' ∧
     Inv w0 S0 n (upd s1 d (if l && !(t = .nl∧ys=[]:Bool) then .lin (KC d t g xs ys) else KC d t g xs ys)) (a.put (some d) c) w' S τ':=by
 obtain ⟨hI,t',g',lo',xs',hv,hcase,hsub,hgs,hls,hgone,hkeep1⟩:=h.spent hs
 simp only [V.sl.injEq] at hv
 obtain ⟨rfl,rfl,rfl,rfl⟩:=hv
 have hxr:zR w S τ (.sl t g lo xs) (a.eval X):=by
  have h0:=M3 hxo h.told
  unfold Zq.spent at hs
  split at hs
  · rename_i r
    simp only [O.ev] at h0
    split at hs
    · rename_i r' p g0 lo0 xs0 hsr
      split at hs
      · simp only [zn,Prod.mk.injEq] at hs
        rw [hsr] at h0
        simp only [zR] at h0
        rw [← hs.2];exact h0
      · cases hs
    · rename_i r' p g0 lo0 xs0 hsr
      split at hs
      · simp only [zn,Prod.mk.injEq] at hs
        rw [hsr] at h0
        rw [← hs.2];exact h0
      · cases hs
    · rename_i g0 lo0 xs0 hsr
      simp only [zn,Prod.mk.injEq] at hs
      rw [hsr] at h0
      rw [← hs.2];exact h0
    · cases hs
  · rename_i g0 lo0 xs0
    simp only [zn,Prod.mk.injEq] at hs
    rw [← hs.2];exact h0
  · cases hs
 have hyr':=zbg hyo h.told hyr
 have hyf:=Jf hyo hyr
 obtain ⟨news,hnews,hnr,hnl⟩:=LH (P:=P) hyr' (e:=info.size) hsz
 obtain ⟨aX,cap,eX,hle,hsx,hshx,hhx⟩:=XX hxr
 obtain ⟨aY,capY,eY,hleY,hsy,hshy,hhy⟩:=XX hyr'
 have hys1:∀ k∈V.tokss ys,∃ t0,k∈(s1 t0).toks∧(s1 t0).ok=true:=by
  intro k hk
  rcases htt with htt | htt
  · have hk':k∈(V.sl t2 g lo2 ys).toks:=by
     by_cases ht2:t2 = .sh
     · rw [hshy ht2] at hk;cases hk
     · exact Wt hsy ht2 k hk
    obtain ⟨t0,h0,hok0⟩:=hyf.1 k hk'
    have he:y.ev s=s t0∨True:=.inr trivial
    cases y with
    | t m=>
      have hm:s m = .sl t2 g lo2 ys:=hyf.2.2.symm
      have hne:t∉(s m).toks:=by rw [hm];exact htt
      have hokm:(s m).ok=true:=by rw [hm];rfl
      exact ⟨m,by rw [hkeep1 m hokm hne,hm];exact hk',by rw [hkeep1 m hokm hne];exact hokm⟩
    | k u=>
      exfalso
      have hu:u = .sl t2 g lo2 ys:=hyf.2.2.symm
      cases Y with
      | tmp m=>simp [cO] at hyo
      | const v=>
        simp only [cO,ye] at hyo
        obtain ⟨u',hu',e'⟩:=hyo
        simp at e'
        have:=(zdY (w:=w) (S:=S) (τ:=τ) hu').2.1
        rw [e',hu] at this
        rw [this] at hk';cases hk'
      | func f=>simp [cO] at hyo;rw [hu] at hyo;cases hyo
      | global f=>simp [cO] at hyo
  · rw [htt] at hk;cases hk
 have hys9:∀ k∈V.tokss ys,∃ t0,k∈(s t0).toks∧(s t0).ok=true:=by
  intro k hk
  refine hyf.1 k ?_
  by_cases ht2:t2 = .sh
  · rw [hshy ht2] at hk;cases hk
  · exact Wt hsy ht2 k hk
 have happ:(Builtin.append_ #[ta,tb] ty #[a.eval X,a.eval Y]).run P w=(if xs.length + ys.length≤cap then
       ((do if let some a:=aX then storeCells (a.add (xs.length * info.size)) news
            pure (.slice aX (xs.length + ys.length) cap):Sem Value)).run P w
     else (do
      let newCap ← choose (.appendCap (xs.length + ys.length) cap e)
      let old ← Builtin.firstCells info.size xs.length (a.eval X)
      let new ← Builtin.firstCells info.size ys.length (a.eval Y)
      let rest:=Builtin.zeroCells z.cells (newCap - (xs.length + ys.length))
      pure (.slice (some (← newRow e (old++new++rest))) (xs.length + ys.length) newCap):Sem Value).run P w):=by
  have hzv:∀ w',(zeroValue e).run P w' = .ok z w':=fun w'=>by simp [zeroValue,typeInfo,hi,hz]
  have hlY:(Builtin.lenOf (a.eval Y)).run P w = .ok ys.length w:=by rw [eY];simp [Builtin.lenOf]
  have hne0:¬ (info.bytes=0):=by omega
  rw [eX]
  simp only [Builtin.append_,List.getElem?_toArray,List.getElem?_cons_zero,List.getElem?_cons_succ,xp,run_underlying hua,run_underlying hub,xi,sizeOf,typeInfo,run_program,hi,Sem.run_pure,
   yD,yb,hlY,Sem.run_ite,Ym,z5]
  split
  · simp only [hnews,xi]
    cases aX <;> simp
  · rename_i hgt
    have hb2:¬ (Builtin.nextslicecap (xs.length + ys.length) cap * info.bytes > 2 ^ 48):=by
     have h1:=zdA (xs.length + ys.length) cap (by omega)
     have h2:Builtin.nextslicecap (xs.length + ys.length) cap * info.bytes≤(2 * (2 ^ 40) + 200) * 64:=Nat.mul_le_mul (by omega) hbytes.2
     omega
    simp only [hne0,or_self,and_false,yb,hb2,xi,run_askRoom,hzv]
 rw [happ]
 have hsxy:∀ v∈xs++ys,v.shape=g:=by
  intro v hv
  rcases zO.1 hv with hv | hv
  · exact hsx v hv
  · exact hsy v hv
 have hsizes:Sh.sizes (V.shapes xs)=xs.length * g.size:=YD xs hsx
 have hmul:(xs.length + ys.length) * g.size=xs.length * g.size + ys.length * g.size:=Nat.add_mul _ _ _
 by_cases hneed:xs.length + ys.length≤cap
 · rw [if_pos hneed]
   rcases hcase with rfl | ⟨r,p,rfl,hxs0,⟨t0,ht0⟩,hfree⟩
   · have hcap0:cap=0:=by
      rcases hhx with h0 | ⟨_,_,_,_,_,_,_,hp,_⟩
      · exact h0
      · exact hp.elim
     have e1:xs=[]:=ZE (by omega)
     have e2:ys=[]:=ZE (by omega)
     subst e1;subst e2;subst hcap0
     have e3:news=[]:=ZE (by rw [hnl];simp)
     subst e3
     refine ⟨.slice aX 0 0,w,τ,by cases aX <;> simp [storeCells],?_⟩
     have:=hI.val (v:=.sl .nl g 0 []) (c:=.slice aX 0 0) (by simp only [zR,zT];exact ⟨aX,0,rfl,xF _,by simp,by simp,.inl rfl⟩) (by intro k hk;simp [V.toks,V.tokss] at hk) rfl hd
     simpa [KC] using this
   · have hob:=h.own t0 _ ht0
     have hnlne:¬ (Tok.at r p = .nl∧ys=[]):=by simp
     have hV:KC d (.at r p) g xs ys = .sl (.at d []) g 0 (xs++ys):=by simp [KC]
     have hL:(l && !(decide (Tok.at r p = .nl∧ys=[])))=l:=by simp
     rw [hV,hL]
     rcases hhx with h0 | ⟨b,off,arr,tyb,fz,rfl,hw,hp,hfit,hr⟩
     · have e1:xs=[]:=ZE (by omega)
       have e2:ys=[]:=ZE (by omega)
       subst e1;subst e2;subst h0
       have e3:news=[]:=ZE (by rw [hnl];simp)
       subst e3
       refine ⟨.slice aX 0 0,w,fun k=>if k = .at d [] then ⟨(τ (.at r p)).b,0,g⟩ else τ k,by cases aX <;> simp [storeCells],?_⟩
       refine hI.make (v:=.sl (.at d []) g 0 ([]++[])) (k0:=.at d []) (blk:=⟨(τ (.at r p)).b,0,g⟩) hd hg rfl hfree hob.2.2 hob.1 hob.2.1 (fun b _ _=>rfl) (xF _) h.below ?_ ?_ l rfl
       · simp only [zR,zT]
         exact ⟨aX,0,rfl,xF _,by simp,by simp,.inl rfl⟩
       · intro k hk;left;simpa [V.toks,V.tokss] using hk
     · obtain ⟨hp1,hp2,hp3,rfl⟩:=hp
       have hcm:(xs.length + ys.length) * g.size≤cap * g.size:=ud _ hneed
       obtain ⟨w',hrun,hwr,e1,e2,e3,e4⟩:=U2 (P:=P) (off:=off + xs.length * g.size) hw (us:=news) (by rw [hnl];omega) (KR ys news hnr)
       rw [hp1] at hob
       refine ⟨.slice (some ⟨b,off,none⟩) (xs.length + ys.length) cap,w',fun k=>if k = .at d [] then ⟨b,off,g⟩ else τ k,by simp [WQ,hsz,hrun],?_⟩
       obtain ⟨arr0,ty0,arr',hwo,hwn,hsp,hfit'⟩:=hwr.old
       rw [hwo] at hw
       simp only [zn,Obj.cells.injEq] at hw
       obtain ⟨rfl,rfl,_⟩:=hw
       have hasz:arr'.size=arr0.size:=by
        have:=XT (cs:=arr0.toList) (o:=off + xs.length * g.size) (us:=news) (by simpa using hfit')
        rw [← hsp] at this;simpa using this
       refine h.make2 hI hgs hls (fun t k hk=>⟨t,hsub t k hk⟩) (v:=.sl (.at d []) g 0 (xs++ys)) (k0:=.at d []) (blk:=⟨b,off,g⟩) hd hg rfl (fun t1 k hk=>by have:=hfree t1 k hk;rw [hp1] at this;exact this) hob.2.2 hob.1 (by rw [e4];exact hob.2.1) (fun b' hb' _=>hwr.other b' hb') (by rw [e4];exact xF _)
        (h.below.trans ⟨e1,e2,e3,by rw [e4];exact xF _,fun k _ hk=>hwr.other k (by rintro rfl;exact hk hob.1),hwr.rows⟩) ?_ ?_ l rfl
       · simp only [zR,zT,uc]
         refine ⟨_,cap,rfl,hneed,hsxy,by simp,.inr ⟨b,off,arr',ty0,(0,0),rfl,hwn,⟨by simp,by simp,by simp,rfl⟩,by rw [hasz];exact hfit,?_⟩⟩
         rw [XA,hsizes,hmul]
         have hsplit:=NX arr'.toList off (xs.length * g.size) (ys.length * g.size)
         rw [hsplit.1,hsplit.2,hsp,Zh _ _ _ _ _ (.inr (xF _)) (by simpa using hfit')]
         constructor
         · refine vf (w:=w) (fun b' hb'=>⟨hb',hwr.other b' (fun e=>hob.2.2 (e ▸ hb'))⟩) xs _ hr ?_
           intro k hk
           obtain ⟨hne,t1,h1,_⟩:=hxs0 k hk
           have hnd:k≠.at d []:=by rintro rfl;exact h.gone d t1 _ (hgs d hg) h1 rfl
           refine ⟨by rw [zy hnd],hwr.other _ ?_⟩
           intro e
           exact hne (h.inj t1 t0 k _ h1 ht0 (by rw [e,hp1]))
         · rw [ZS _ _ _ _ _ (xF _) (by rw [hnl];exact xF _) (by simp;omega),Nat.sub_self,Jq _ _ (by rw [hnl];simp;omega)]
           refine vf (w:=w) (fun b' hb'=>⟨hb',hwr.other b' (fun e=>hob.2.2 (e ▸ hb'))⟩) ys _ hnr ?_
           intro k hk
           obtain ⟨t1,h1,_⟩:=hys1 k hk
           have hne:k≠.at d []:=by rintro rfl;exact hI.gone d t1 _ hg h1 rfl
           refine ⟨by rw [zy hne],hwr.other _ ?_⟩
           have:=hfree t1 k h1
           rw [hp1] at this;exact this
       · intro k hk
         simp only [V.toks,yf] at hk
         rcases hk with rfl | hk
         · exact .inl rfl
         · split at hk
           · cases hk
           · rw [Xs] at hk
             rcases zO.1 hk with hk | hk
             · obtain ⟨hne,t1,h1,h2⟩:=hxs0 k hk
               exact .inr ⟨⟨t1,h1,h2⟩,fun e=>hne (h.inj t1 t0 k _ h1 ht0 (by rw [e,hp1]))⟩
             · obtain ⟨t1,h1,h2⟩:=hys1 k hk
               have h3:=hfree t1 k h1
               rw [hp1] at h3
               exact .inr ⟨hys9 k hk,h3⟩
 · rw [zy hneed]
   have hxs0:∀ k∈V.tokss xs,∃ t0,k∈(s t0).toks∧(s t0).ok=true:=by
    rcases hcase with rfl | ⟨r,p,rfl,hxs0,_⟩
    · rcases hhx with h0 | ⟨_,_,_,_,_,_,_,hp,_⟩
      · have:xs=[]:=ZE (by omega)
        subst this;intro k hk;cases hk
      · exact hp.elim
    · exact fun k hk=>(hxs0 k hk).2
   have hV:KC d t g xs ys = .sl (.at d []) g 0 (xs++ys):=by
    unfold KC
    rw [zy]
    rintro ⟨rfl,rfl⟩
    rcases hhx with h0 | ⟨_,_,_,_,_,_,_,hp,_⟩
    · simp at hneed;omega
    · exact hp.elim
   have hL:(l && !(decide (t = .nl∧ys=[])))=l:=by
    have:decide (t = .nl∧ys=[])=false:=by
     rw [decide_eq_false_iff_not]
     rintro ⟨rfl,rfl⟩
     rcases hhx with h0 | ⟨_,_,_,_,_,_,_,hp,_⟩
     · simp at hneed;omega
     · exact hp.elim
    rw [this];simp
   rw [hV,hL]
   obtain ⟨newCap,hcapr,hcapge⟩:∃ newCap,(choose (.appendCap (xs.length + ys.length) cap e)).run P w = .ok newCap { w with drawn:=w.drawn + 1 }∧xs.length + ys.length≤newCap:=by
    refine ⟨_,by simp [Question.forced];rfl,?_⟩
    simp [Question.cut]
   have hI2:Inv w0 S0 n s1 a { w with drawn:=w.drawn + 1 } S τ:=hI.same_heap rfl (J4 h.below _)
   have hI9:Inv w0 S0 n s a { w with drawn:=w.drawn + 1 } S τ:=h.same_heap rfl (J4 h.below _)
   have hxr2:zR { w with drawn:=w.drawn + 1 } S τ (.sl t g lo xs) (a.eval X):=wP (w:=w) (w':={ w with drawn:=w.drawn + 1 }) (fun b hb=>⟨hb,rfl⟩) _ _ hxr (fun k _=>⟨rfl,rfl⟩)
   have hyr2:zR { w with drawn:=w.drawn + 1 } S τ (.sl t2 g lo2 ys) (a.eval Y):=wP (w:=w) (w':={ w with drawn:=w.drawn + 1 }) (fun b hb=>⟨hb,rfl⟩) _ _ hyr' (fun k _=>⟨rfl,rfl⟩)
   obtain ⟨olds,holds,hor,hol⟩:=LH (P:=P) hxr2 (e:=info.size) hsz
   obtain ⟨news2,hnews2,hnr2,hnl2⟩:=LH (P:=P) hyr2 (e:=info.size) hsz
   have harr:(olds.toArray++news2.toArray++Builtin.zeroCells z.cells (newCap - (xs.length + ys.length))).toList=olds++news2++(Builtin.zeroCells z.cells (newCap - (xs.length + ys.length))).toList:=by simp
   have hzl:(Builtin.zeroCells z.cells (newCap - (xs.length + ys.length))).size=(newCap - (xs.length + ys.length)) * g.size:=by simp [Builtin.zeroCells,hzs,hsz]
   have hcm:(xs.length + ys.length) * g.size + (newCap - (xs.length + ys.length)) * g.size=newCap * g.size:=by rw [← Nat.add_mul];congr 1;omega
   refine ⟨_,_,_,?_,hI9.newList2 hI2 hgs hls (fun t k hk=>⟨t,hsub t k hk⟩) hd hg (arr:=olds.toArray++news2.toArray++Builtin.zeroCells z.cells (newCap - (xs.length + ys.length))) e (cap:=newCap) hsxy (by simpa using hcapge) ?_ ?_ ?_ l⟩
   · simp only [xp,hcapr,xi,holds,hnews2,newRow,run_newObj,Sem.run_pure,uc]
     rfl
   · simp only [Array.size_append,List.size_toArray,hzl,hol,hnl2]
     omega
   · rw [harr,uc,hmul,List.take_append_of_le_length (by simp [hol,hnl2]),List.take_of_length_le (by simp [hol,hnl2]),XA,hsizes,List.take_left' hol,List.drop_left' hol]
     exact ⟨hor,hnr2⟩
   · intro k hk
     rw [Xs] at hk
     rcases zO.1 hk with hk | hk
     · exact hxs0 k hk
     · exact hys9 k hk
end
mutual
def Mp:V→List Nat→Tok
 | .sl t _ _ xs,q=>match q with
   | []=>t
   | i :: q=>Uu xs i q
 | .agg vs,q=>match q with
   | []=>.nl
   | i :: q=>Uu vs i q
 | .tup vs,q=>match q with
   | []=>.nl
   | i :: q=>Uu vs i q
 | .lin v,q=>Mp v q
 | _,_=>.nl
def Uu:List V→Nat→List Nat→Tok
 | [],_,_=>.nl
 | v :: _,0,q=>Mp v q
 | _ :: vs,i + 1,q=>Uu vs i q
end
mutual
theorem QX {w:World} {S:Nat→Prop} {τ:Tok→Blk} (S':Nat→Prop):∀ (v:V) (cs:List Value),zT w S τ v cs→v.mine=true→zT w S' τ v cs
 | .dead,_,_,h | .gone,_,_,h | .fn ..,_,_,h | .ref ..,_,_,h=>by simp [V.mine] at h
 | .lin _,_,h,_=>by simp [zT] at h
 | .tup _,_,h,_=>by simp [zT] at h
 | .int ..,cs,h,_=>by simpa [zT] using h
 | .bool ..,cs,h,_=>by simpa [zT] using h
 | .agg vs,cs,h,hm=>by
   simp only [zT] at h ⊢
   exact Js S' vs cs h (by simpa [V.mine] using hm)
 | .sl t g lo xs,cs,hh,hm=>by
   simp only [zT] at hh ⊢
   obtain ⟨a,cap,hc,hle,hx,hsh,hh⟩:=hh
   refine ⟨a,cap,hc,hle,hx,hsh,hh.imp id ?_⟩
   rintro ⟨b,off,arr,ty,fz,ha,hw,hp,hfit,hr⟩
   have hmx:yC w S' τ xs ((arr.toList.drop off).take (xs.length * g.size)):=by
    by_cases hf:g.flat=true
    · refine Jb S' xs _ hr ?_
      intro x hx';rw [hx x hx'];exact hf
    · refine Js S' xs _ hr ?_
      cases t <;> simp_all [V.mine]
   refine ⟨b,off,arr,ty,fz,ha,hw,?_,hfit,hmx⟩
   cases t with
   | sh=>simp [V.mine] at hm
   | bx r=>simp [V.mine] at hm
   | nl=>exact hp
   | «at» r p=>exact hp
theorem Js {w:World} {S:Nat→Prop} {τ:Tok→Blk} (S':Nat→Prop):∀ (vs:List V) (cs:List Value),yC w S τ vs cs→V.mines vs=true→yC w S' τ vs cs
 | [],cs,h,_=>by simpa [yC] using h
 | v :: vs,cs,h,hm=>by
   simp only [yC] at h ⊢
   simp only [V.mines,zp] at hm
   exact ⟨QX S' v _ h.1 hm.1,Js S' vs _ h.2 hm.2⟩
theorem QZ {w w':World} {S:Nat→Prop} {τ τ':Tok→Blk} (S':Nat→Prop):∀ (v:V) (cs:List Value),zT w S τ v cs→v.shape.flat=true→zT w' S' τ' v cs
 | .dead,_,_,h | .gone,_,_,h | .fn ..,_,_,h | .ref ..,_,_,h | .tup _,_,_,h | .sl ..,_,_,h=>by simp [V.shape,Sh.flat] at h
 | .lin _,_,h,_=>by simp [zT] at h
 | .int ..,cs,h,_=>by simpa [zT] using h
 | .bool ..,cs,h,_=>by simpa [zT] using h
 | .agg vs,cs,h,hm=>by
   simp only [zT] at h ⊢
   refine Jb S' vs cs h ?_
   have hm':Sh.flats (V.shapes vs)=true:=by simpa [V.shape,Sh.flat] using hm
   clear hm h
   induction vs with
   | nil=>intro x hx;cases hx
   | cons v vs ih=>
     simp only [V.shapes,Sh.flats,zp] at hm'
     intro x hx
     simp only [yf] at hx
     rcases hx with rfl | hx
     · exact hm'.1
     · exact ih hm'.2 x hx
theorem Jb {w w':World} {S:Nat→Prop} {τ τ':Tok→Blk} (S':Nat→Prop):∀ (vs:List V) (cs:List Value),yC w S τ vs cs→(∀ v∈vs,v.shape.flat=true)→yC w' S' τ' vs cs
 | [],cs,h,_=>by simpa [yC] using h
 | v :: vs,cs,h,hm=>by
   simp only [yC] at h ⊢
   exact ⟨QZ S' v _ h.1 (hm v (by simp)),Jb S' vs _ h.2 fun x hx=>hm x (by simp [hx])⟩
end
mutual
theorem LY {w:World} {S:Nat→Prop} {τ:Tok→Blk} (S':Nat→Prop):∀ (v:V) (c:Value),zR w S τ v c→v.mine=true→zR w S' τ v c
 | .dead,_,_,h | .gone,_,_,h | .fn ..,_,_,h | .ref ..,_,_,h=>by simp [V.mine] at h
 | .int ..,c,h,_=>by simpa [zR] using h
 | .bool ..,c,h,_=>by simpa [zR] using h
 | .lin v,c,h,hm=>by
   simp only [zR] at h ⊢
   exact LY S' v c h (by simpa [V.mine] using hm)
 | .agg vs,c,h,hm=>by
   simp only [zR] at h ⊢
   obtain ⟨arr,e,h⟩:=h
   exact ⟨arr,e,Js S' vs _ h (by simpa [V.mine] using hm)⟩
 | .tup vs,c,h,hm=>by
   simp only [zR] at h ⊢
   obtain ⟨arr,e,h⟩:=h
   exact ⟨arr,e,NI S' vs _ h (by simpa [V.mine] using hm)⟩
 | .sl ..,_,h,hm=>xW rfl (QX S' _ _ (by simpa only [zR] using h) hm)
theorem NI {w:World} {S:Nat→Prop} {τ:Tok→Blk} (S':Nat→Prop):∀ (vs:List V) (cs:List Value),yB w S τ vs cs→V.mines vs=true→yB w S' τ vs cs
 | [],cs,h,_=>by simpa [yB] using h
 | v :: vs,cs,h,hm=>by
   simp only [yB] at h ⊢
   obtain ⟨c,cs',e,h1,h2⟩:=h
   simp only [V.mines,zp] at hm
   exact ⟨c,cs',e,LY S' v c h1 hm.1,NI S' vs cs' h2 hm.2⟩
end
mutual
theorem Mh (d:Nat):∀ (v:V) (p:List Nat) (m:Nat),(V.tag d p m (V.ret m v)).shape=v.shape
 | .dead,p,m | .gone,p,m | .int ..,p,m | .bool _,p,m=>by simp [V.ret,V.tag,V.shape,V.erase]
 | .lin v,p,m=>by simp only [V.ret,V.shape];exact Mh d v p m
 | .tup vs,p,m=>by simp [V.ret,V.tag,V.shape]
 | .fn ..,p,m=>by simp [V.ret,V.tag,V.shape,V.erase]
 | .ref ..,p,m=>by simp [V.ret,V.tag,V.shape,V.erase]
 | .sl t g lo xs,p,m=>by
   cases m <;> cases t <;> simp [V.ret,V.tag,V.shape]
 | .agg vs,p,m=>by
   simp only [V.ret,V.tag,V.shape]
   rw [Ke d vs p m 0]
theorem Ke (d:Nat):∀ (vs:List V) (p:List Nat) (m k:Nat),V.shapes (V.tags d p m k (V.rets m vs))=V.shapes vs
 | [],p,m,k=>rfl
 | v :: vs,p,m,k=>by simp [V.rets,V.tags,V.shapes,Mh d v,Ke d vs]
end
def M8 (d:Nat) (T:List Nat→Tok) (τ τ':Tok→Blk):Prop:=∀ q,τ' (.at d q)=τ (T q)
theorem zdi (m:Nat):∀ vs:List V,(V.rets m vs).length=vs.length
 | []=>rfl
 | v :: vs=>by simp [V.rets,zdi m vs]
theorem zcD (d:Nat) (p:List Nat) (m:Nat):∀ (k:Nat) (vs:List V),(V.tags d p m k vs).length=vs.length
 | k,[]=>rfl
 | k,v :: vs=>by simp [V.tags,zcD d p m (k + 1) vs]
theorem ziU (d:Nat) (p:List Nat) (m k:Nat) {g:Sh} {xs:List V} (hx:∀ x∈xs,x.shape=g):∀ x∈V.tags d p m k (V.rets m xs),x.shape=g:=
 Us (Ke d xs p m k) hx
mutual
theorem zcw {w:World} {S S':Nat→Prop} {τ τ':Tok→Blk} {d:Nat} {T:List Nat→Tok} (hT:M8 d T τ τ') (hS:∀ b,S b→S' b) :
    ∀ (v:V) (p:List Nat) (m:Nat) (cs:List Value) (l:List (List Nat×Tok)),zT w S τ v cs→V.own p m v=some l→(∀ q,T (p++q)=Mp v q)→(∀ k∈V.low m v,S' (τ k).b)→zT w S' τ' (V.tag d p m (V.ret m v)) cs
 | .dead,p,m,cs,l,_,h,_,_=>by simp [V.own] at h
 | .gone,p,m,cs,l,_,h,_,_=>by simp [V.own] at h
 | .fn ..,p,m,cs,l,_,h,_,_=>by simp [V.own] at h
 | .ref ..,p,m,cs,l,_,h,_,_=>by simp [V.own] at h
 | .lin _,p,m,cs,l,h,_,_,_=>by simp [zT] at h
 | .tup _,p,m,cs,l,h,_,_,_=>by simp [zT] at h
 | .int ..,p,m,cs,l,h,_,_,_=>by simpa [V.ret,V.tag,V.erase,zT] using h
 | .bool ..,p,m,cs,l,h,_,_,_=>by simpa [V.ret,V.tag,V.erase,zT] using h
 | .agg vs,p,m,cs,l,h,ho,ht,hl=>by
   simp only [zT,V.ret,V.tag] at h ⊢
   exact Kz hT hS vs p m 0 cs l h (by simpa [V.own] using ho) (fun j q=>by rw [Nat.zero_add];exact ht (j :: q)) (by simpa [V.low] using hl)
 | .sl t g lo xs,p,0,cs,l,hh,ho,ht,hl=>by
   have:=uU (τ':=τ') hS (.sl t g lo xs) cs hh (by simpa [V.low] using hl)
   simpa [V.ret,V.tag,V.erase] using this
 | .sl t g lo xs,p,m + 1,cs,l,hh,ho,ht,hl=>by
   simp only [zT] at hh
   obtain ⟨a,cap,hc,hle,hx,hsh,hh⟩:=hh
   cases t with
   | sh=>simp [V.own] at ho
   | bx r=>simp [V.own] at ho
   | nl=>
     have h0:cap=0:=by
      rcases hh with h0 | ⟨_,_,_,_,_,_,_,hp,_⟩
      · exact h0
      · exact hp.elim
     have:xs=[]:=ZE (by omega)
     subst this
     simp only [V.ret,V.tag,zT]
     exact ⟨a,cap,hc,hle,by simp,by simp,.inl h0⟩
   | «at» r q=>
     have hlen:(if g.flat then (if g.flat then xs else V.rets m xs) else V.tags d p m 0 (if g.flat then xs else V.rets m xs)).length=xs.length:=by
      split
      · rfl
      · rw [zcD,zdi]
     simp only [V.ret,V.tag,zT]
     refine ⟨a,cap,by rw [hlen];exact hc,by rw [hlen];exact hle,?_,by simp,hh.imp id ?_⟩
     · split
       · exact hx
       · exact ziU d p m 0 hx
     · rintro ⟨b,off,arr,ty,fz,ha,hw,hp,hfit,hr⟩
       have e0:τ' (.at d p)=τ (.at r q):=by rw [hT p];have:=ht [];rw [xy] at this;rw [this];rfl
       refine ⟨b,off,arr,ty,fz,ha,hw,?_,hfit,?_⟩
       · obtain ⟨h1,h2,h3,h4⟩:=hp
         have hlo:lo=0:=by
          simp only [V.own] at ho
          split at ho
          · assumption
          · cases ho
         subst hlo
         exact ⟨by rw [e0];exact h1,by rw [e0];exact h2,by rw [e0];exact h3,h4⟩
       · rw [hlen]
         split
         · rename_i hf
           exact Jb S' xs _ hr fun x hx'=>by rw [hx x hx'];exact hf
         · rename_i hf
           have ho':(V.owns p m 0 xs).isSome:=by
            simp only [V.own,hf,yD,yb] at ho
            split at ho
            · cases hos:V.owns p m 0 xs with
              | none=>simp [hos] at ho
              | some l'=>rfl
            · cases ho
           obtain ⟨l',hl'⟩:=Option.isSome_iff_exists.1 ho'
           exact Kz hT hS xs p m 0 _ l' hr hl' (fun j q=>by rw [Nat.zero_add];exact ht (j :: q)) (by simpa [V.low,hf] using hl)
theorem Kz {w:World} {S S':Nat→Prop} {τ τ':Tok→Blk} {d:Nat} {T:List Nat→Tok} (hT:M8 d T τ τ') (hS:∀ b,S b→S' b) :
    ∀ (vs:List V) (p:List Nat) (m k:Nat) (cs:List Value) (l:List (List Nat×Tok)),yC w S τ vs cs→V.owns p m k vs=some l→(∀ j q,T (p++(k + j) :: q)=Uu vs j q)→(∀ k∈V.lows m vs,S' (τ k).b) →
     yC w S' τ' (V.tags d p m k (V.rets m vs)) cs
 | [],p,m,k,cs,l,h,_,_,_=>by simpa [yC,V.rets,V.tags] using h
 | v :: vs,p,m,k,cs,l,h,ho,ht,hl=>by
   simp only [yC] at h
   simp only [V.owns] at ho
   split at ho
   · rename_i la lb h1 h2
     simp only [V.rets,V.tags,yC,Mh]
     simp only [V.lows,zO] at hl
     refine ⟨zcw hT hS v (p++[k]) m _ la h.1 h1 (fun q=>?_) (fun k hk=>hl k (.inl hk)),Kz hT hS vs p m (k + 1) _ lb h.2 h2 (fun j q=>?_) (fun k hk=>hl k (.inr hk))⟩
     · have:=ht 0 q
       simpa [Uu] using this
     · have:=ht (j + 1) q
       rw [show k + 1 + j=k + (j + 1) by omega,this]
       rfl
   · cases ho
end
mutual
theorem Lq {w:World} {S S':Nat→Prop} {τ τ':Tok→Blk} {d:Nat} {T:List Nat→Tok} (hT:M8 d T τ τ') (hS:∀ b,S b→S' b) :
    ∀ (v:V) (p:List Nat) (m:Nat) (c:Value) (l:List (List Nat×Tok)),zR w S τ v c→V.own p m v=some l→(∀ q,T (p++q)=Mp v q)→(∀ k∈V.low m v,S' (τ k).b)→zR w S' τ' (V.tag d p m (V.ret m v)) c
 | .dead,p,m,cs,l,_,h,_,_=>by simp [V.own] at h
 | .gone,p,m,cs,l,_,h,_,_=>by simp [V.own] at h
 | .fn ..,p,m,cs,l,_,h,_,_=>by simp [V.own] at h
 | .ref ..,p,m,cs,l,_,h,_,_=>by simp [V.own] at h
 | .int ..,p,m,cs,l,h,_,_,_=>by simpa [V.ret,V.tag,V.erase,zR] using h
 | .bool ..,p,m,cs,l,h,_,_,_=>by simpa [V.ret,V.tag,V.erase,zR] using h
 | .lin v,p,m,c,l,h,ho,ht,hl=>by
   simp only [zR] at h
   simp only [V.ret]
   exact Lq hT hS v p m c l h (by simpa [V.own] using ho) (fun q=>by rw [ht q];rfl) (by simpa [V.low] using hl)
 | .agg vs,p,m,c,l,h,ho,ht,hl=>by
   simp only [zR,V.ret,V.tag] at h ⊢
   obtain ⟨arr,e,h⟩:=h
   exact ⟨arr,e,Kz hT hS vs p m 0 _ l h (by simpa [V.own] using ho) (fun j q=>by rw [Nat.zero_add];exact ht (j :: q)) (by simpa [V.low] using hl)⟩
 | .tup vs,p,m,c,l,h,ho,ht,hl=>by
   simp only [zR,V.ret,V.tag] at h ⊢
   obtain ⟨arr,e,h⟩:=h
   exact ⟨arr,e,QG hT hS vs p m 0 _ l h (by simpa [V.own] using ho) (fun j q=>by rw [Nat.zero_add];exact ht (j :: q)) (by simpa [V.low] using hl)⟩
 | .sl t g lo xs,p,m,c,l,h,ho,ht,hl=>by
   have:=zcw hT hS (.sl t g lo xs) p m [c] l (by simpa only [zR] using h) ho ht hl
   refine xW ?_ this
   cases m <;> cases t <;> rfl
theorem QG {w:World} {S S':Nat→Prop} {τ τ':Tok→Blk} {d:Nat} {T:List Nat→Tok} (hT:M8 d T τ τ') (hS:∀ b,S b→S' b) :
    ∀ (vs:List V) (p:List Nat) (m k:Nat) (cs:List Value) (l:List (List Nat×Tok)),yB w S τ vs cs→V.owns p m k vs=some l→(∀ j q,T (p++(k + j) :: q)=Uu vs j q)→(∀ k∈V.lows m vs,S' (τ k).b) →
     yB w S' τ' (V.tags d p m k (V.rets m vs)) cs
 | [],p,m,k,cs,l,h,_,_,_=>by simpa [yB,V.rets,V.tags] using h
 | v :: vs,p,m,k,cs,l,h,ho,ht,hl=>by
   simp only [yB] at h
   obtain ⟨c,cs',e,hc,hcs⟩:=h
   simp only [V.owns] at ho
   split at ho
   · rename_i la lb h1 h2
     simp only [V.rets,V.tags,yB]
     simp only [V.lows,zO] at hl
     refine ⟨c,cs',e,Lq hT hS v (p++[k]) m _ la hc h1 (fun q=>?_) (fun k hk=>hl k (.inl hk)),QG hT hS vs p m (k + 1) _ lb hcs h2 (fun j q=>?_) (fun k hk=>hl k (.inr hk))⟩
     · have:=ht 0 q
       simpa [Uu] using this
     · have:=ht (j + 1) q
       rw [show k + 1 + j=k + (j + 1) by omega,this]
       rfl
   · cases ho
end
mutual
theorem Na (d:Nat):∀ (v:V) (p:List Nat) (m:Nat) (l:List (List Nat×Tok)),V.own p m v=some l→(V.tag d p m (V.ret m v)).toks=l.map (fun x=>Tok.at d x.1)
 | .dead,p,m,l,h=>by simp [V.own] at h
 | .gone,p,m,l,h=>by simp [V.own] at h
 | .fn ..,p,m,l,h=>by simp [V.own] at h
 | .ref ..,p,m,l,h=>by simp [V.own] at h
 | .int ..,p,m,l,h=>by simp [V.own] at h;subst h;simp [V.ret,V.tag,V.erase,V.toks]
 | .bool ..,p,m,l,h=>by simp [V.own] at h;subst h;simp [V.ret,V.tag,V.erase,V.toks]
 | .lin v,p,m,l,h=>by simp only [V.ret];exact Na d v p m l (by simpa [V.own] using h)
 | .agg vs,p,m,l,h=>by simpa [V.ret,V.tag,V.toks] using Kx d vs p m 0 l (by simpa [V.own] using h)
 | .tup vs,p,m,l,h=>by simpa [V.ret,V.tag,V.toks] using Kx d vs p m 0 l (by simpa [V.own] using h)
 | .sl t g lo xs,p,0,l,h=>by simp [V.own] at h;subst h;simp [V.ret,V.tag,V.toks]
 | .sl t g lo xs,p,m + 1,l,h=>by
   cases t with
   | sh=>simp [V.own] at h
   | bx r=>simp [V.own] at h
   | nl=>simp [V.own] at h;subst h;simp [V.ret,V.tag,V.toks,V.tokss]
   | «at» r q=>
     simp only [V.own] at h
     split at h
     · by_cases hf:g.flat=true
       · simp only [hf,z5,zn] at h
         subst h
         simp [V.ret,V.tag,V.toks,hf]
       · simp only [hf,yD,yb,ye] at h
         obtain ⟨l',h',rfl⟩:=h
         have:=Kx d xs p m 0 l' h'
         simp [V.ret,V.tag,V.toks,hf,this]
     · cases h
theorem Kx (d:Nat):∀ (vs:List V) (p:List Nat) (m k:Nat) (l:List (List Nat×Tok)),V.owns p m k vs=some l→V.tokss (V.tags d p m k (V.rets m vs))=l.map (fun x=>Tok.at d x.1)
 | [],p,m,k,l,h=>by simp [V.owns] at h;subst h;simp [V.rets,V.tags,V.tokss]
 | v :: vs,p,m,k,l,h=>by
   simp only [V.owns] at h
   split at h
   · rename_i la lb h1 h2
     simp only [zn] at h
     subst h
     simp [V.rets,V.tags,V.tokss,Na d v (p++[k]) m la h1,Kx d vs p m (k + 1) lb h2]
   · cases h
end
mutual
theorem Nz {T:List Nat→Tok}:∀ (v:V) (p:List Nat) (m:Nat) (l:List (List Nat×Tok)),V.own p m v=some l→(∀ q,T (p++q)=Mp v q)→∀ x∈l,T x.1=x.2∧x.2∈v.toks
 | .dead,p,m,l,h,_=>by simp [V.own] at h
 | .gone,p,m,l,h,_=>by simp [V.own] at h
 | .fn ..,p,m,l,h,_=>by simp [V.own] at h
 | .ref ..,p,m,l,h,_=>by simp [V.own] at h
 | .int ..,p,m,l,h,_=>by simp [V.own] at h;subst h;simp
 | .bool ..,p,m,l,h,_=>by simp [V.own] at h;subst h;simp
 | .lin v,p,m,l,h,ht=>by
   have:=Nz (T:=T) v p m l (by simpa [V.own] using h) (fun q=>by rw [ht q];rfl)
   simpa [V.toks] using this
 | .agg vs,p,m,l,h,ht=>by
   have:=Kr (T:=T) vs p m 0 l (by simpa [V.own] using h) (fun j q=>by rw [Nat.zero_add];exact ht (j :: q))
   simpa [V.toks] using this
 | .tup vs,p,m,l,h,ht=>by
   have:=Kr (T:=T) vs p m 0 l (by simpa [V.own] using h) (fun j q=>by rw [Nat.zero_add];exact ht (j :: q))
   simpa [V.toks] using this
 | .sl t g lo xs,p,0,l,h,_=>by simp [V.own] at h;subst h;simp
 | .sl t g lo xs,p,m + 1,l,h,ht=>by
   cases t with
   | sh=>simp [V.own] at h
   | bx r=>simp [V.own] at h
   | nl=>simp [V.own] at h;subst h;simp
   | «at» r q=>
     have h0:T p = .at r q:=by have:=ht [];rw [xy] at this;rw [this];rfl
     simp only [V.own] at h
     split at h
     · by_cases hf:g.flat=true
       · simp only [hf,z5,zn] at h
         subst h
         simp [V.toks,h0]
       · simp only [hf,yD,yb,ye] at h
         obtain ⟨l',h',rfl⟩:=h
         have:=Kr (T:=T) xs p m 0 l' h' (fun j q=>by rw [Nat.zero_add];exact ht (j :: q))
         intro x hx
         simp only [yf] at hx
         rcases hx with rfl | hx
         · exact ⟨h0,by simp [V.toks]⟩
         · exact ⟨(this x hx).1,by simp [V.toks,hf,(this x hx).2]⟩
     · cases h
theorem Kr {T:List Nat→Tok}:∀ (vs:List V) (p:List Nat) (m k:Nat) (l:List (List Nat×Tok)),V.owns p m k vs=some l→(∀ j q,T (p++(k + j) :: q)=Uu vs j q)→∀ x∈l,T x.1=x.2∧x.2∈V.tokss vs
 | [],p,m,k,l,h,_=>by simp [V.owns] at h;subst h;simp
 | v :: vs,p,m,k,l,h,ht=>by
   simp only [V.owns] at h
   split at h
   · rename_i la lb h1 h2
     simp only [zn] at h
     subst h
     have ha:=Nz (T:=T) v (p++[k]) m la h1 (fun q=>by have:=ht 0 q;simpa [Uu] using this)
     have hb:=Kr (T:=T) vs p m (k + 1) lb h2 (fun j q=>by
      have:=ht (j + 1) q
      rw [show k + 1 + j=k + (j + 1) by omega,this];rfl)
     intro x hx
     rcases zO.1 hx with hx | hx
     · exact ⟨(ha x hx).1,by simp [V.tokss,(ha x hx).2]⟩
     · exact ⟨(hb x hx).1,by simp [V.tokss,(hb x hx).2]⟩
   · cases h
end
def O.rds:O→List Nat
 | .t n=>[n]
 | .k _=>[]
def A.rds:A→List Nat
 | .mov x | .load _ x | .nilc x | .un _ x | .conv _ x | .fld x _ _ | .field x _ _ _ | .ext x _ | .extS x _ | .sliceA x _ _ | .len x=>x.rds
 | .pick c x y=>c.rds++x.rds++y.rds
 | .bin _ x y | .beq _ x y | .eqP _ x y | .idx x y _ | .idxA x y _ _ | .index x y _ _=>x.rds++y.rds
 | .fn _ fs cs=>fs.flatMap O.rds++cs.flatMap O.rds
 | .slice x lo hi _=>x.rds++(lo.map O.rds).getD []++(hi.map O.rds).getD []
 | .mx xs | .mn xs=>xs.flatMap O.rds
 | .bld _ ps=>ps.flatMap fun p=>p.2.2.rds
inductive X where
 | v (a:A)
 | alloc (z:V)
 | box (x:O)
 | mk (n:O) (z z0:V)
 | lit (z:V) (len:Nat) (ps:List (Nat×Nat×O))
 | app (h:Sh) (x y:O)
 | appS (h:Sh) (x y:O)
 | store (h:Sh) (x y:O)
 | call (f:O) (args:List O)
 | mark (f:O) (args:List O)
 | callO (f:O) (args:List O)
 | callG (f:O) (i:Nat) (args:List O)
 | copy (x y:O)
 | callT (f:O) (args:List O) (bs es:List Nat)
 | storeK (h:Sh) (x y:O)
 | litS (z:V) (len:Nat) (ps:List (Nat×Nat×O))
 | vN (a:A) (bs:List Nat)
 | callTN (f:O) (args:List O) (bs ds:List Nat)
 deriving Repr,Inhabited
structure I where
 d:Option Nat
 g:Option (Nat×Bool)
 l:Bool
 x:X
 deriving Repr,Inhabited
def xO:List O→(Nat→V)→Option (List V×(Nat→V))
 | [],s=>some ([],s)
 | x :: xs,s=>match x.ev s with
   | .gone=>none
   | .lin v=>match x with
     | .t r=>(xO xs (upd s r .dead)).map fun p=>(v.erase :: p.1,p.2)
     | _=>none
   | v=>(xO xs s).map fun p=>(v.erase :: p.1,p.2)
def xQ (s:Nat→V):List O→List Tok
 | []=>[]
 | x :: xs=>(match x.ev s with
   | .lin v=>(match x with
     | .t r=>v.toks.filter fun k=>k.root? != some r
     | _=>[])
   | v=>v.toks)++xQ s xs
def place (s:Nat→V) (d:Option Nat) (l:Bool) (v:V):Option (Nat→V):=
 if v.toks.isEmpty then (if v.ok then some (put s d v) else none) else
 match d with
 | some d=>(match s d with
   | .gone=>if v.ok then some (upd s d (if l then .lin v else v)) else none
   | _=>none)
 | none=>none
def Wl (s:Nat→V) (x:O):Option ((Nat→V)×V):=
 match x with
 | .t r=>match s r with
   | .lin (.sl (.at r' p) h lo xs)=>if r'=r && (V.tokss xs).isEmpty then some (upd s r .dead,.sl (.at r' p) h lo xs) else none
   | .sl .nl h lo xs=>some (s,.sl .nl h lo xs)
   | _=>none
 | .k (.sl .nl h lo xs)=>some (s,.sl .nl h lo xs)
 | _=>none
theorem zad {s:Nat→V} {x:O} {r} (h:Wl s x=some r):spent s x=some r:=by
 unfold Wl at h
 unfold spent
 split at h
 · split at h
   · rename_i hs;simp only [hs];exact h
   · rename_i hs;simp only [hs];exact h
   · cases h
 · exact h
 · cases h
mutual
def V.like:V→V→Bool
 | .int k n,.int k' n'=>decide (k=k') && decide (n=n')
 | .bool b,.bool b'=>b == b'
 | .sl t h lo xs,.sl t' h' lo' ys=>decide (t=t') && (h'.beq h && (Nat.beq lo 0 && (Nat.beq lo' 0 && Nat.beq ys.length xs.length)))
 | .agg vs,.agg us=>V.likes vs us
 | _,_=>false
def V.likes:List V→List V→Bool
 | [],[]=>true
 | v :: vs,u :: us=>V.like v u && V.likes vs us
 | _,_=>false
end
def zty (l:List (List Nat×Tok)):Tok→Option Tok
 | .at r p=>if r=zP then (l.find? fun y=>y.1 == p).map (·.2) else none
 | .nl=>some .nl
 | _=>none
def zxT (v u:V):V:=
 match V.own [] 9 v with
 | some l=>if (V.tag zP [] 9 (V.ret 9 v)).like u && u.mine && u.toks.all Tok.pinned then V.map (zty l) u else .dead
 | none=>.dead
def ZW (ks:List Tok) (k:Tok):Option Tok:=if ks.contains k then none else some k
mutual
def V.sub (t:Tok):V→Option (Sh×List V)
 | .sl t' h lo xs=>if t'=t then (if lo=0 then some (h,xs) else none) else match t' with
   | .at _ _=>if h.flat then none else V.subs t xs
   | _=>none
 | .agg vs=>V.subs t vs
 | .tup vs=>V.subs t vs
 | _=>none
def V.subs (t:Tok):List V→Option (Sh×List V)
 | []=>none
 | v :: vs=>match V.sub t v with
   | some r=>some r
   | none=>V.subs t vs
end
def zgY (nv:V) (t:Tok) (h:Sh) (lo:Nat) (xs:List V):V:=
 match V.sub t nv with
 | some (h',ys)=>if h'.beq h && (Nat.beq lo 0 && Nat.beq ys.length xs.length) then .sl t h 0 ys else .dead
 | none=>.dead
mutual
def V.rem (ks:List Tok) (nv:V):V→V
 | .dead=>.dead
 | .gone=>.gone
 | .int k n=>.int k n
 | .bool b=>.bool b
 | .sl t h lo xs=>match t with
   | .sh=>.sl .sh h lo xs
   | t=>if ks.contains t then zgY nv t h lo xs else .sl t h lo (if h.flat then xs else V.rems ks nv xs)
 | .ref t i q c=>match t with
   | .sh=>.ref .sh i q c
   | t=>if ks.contains t then .dead else .ref t i q (V.rem ks nv c)
 | .agg vs=>.agg (V.rems ks nv vs)
 | .tup vs=>.tup (V.rems ks nv vs)
 | .fn g fs env=>.fn g (V.rems ks nv fs) (V.rems ks nv env)
 | .lin v=>.lin (V.rem ks nv v)
def V.rems (ks:List Tok) (nv:V):List V→List V
 | []=>[]
 | v :: vs=>V.rem ks nv v :: V.rems ks nv vs
end
def Xv:Nat:=1000000000
def unk (k:Nat):Nat:=if Nat.ble Xv k then k - Xv else k
def key (l:Bool) (g:Nat):Nat:=bif l then g + Xv else g
theorem ME {l:Bool} {g:Nat} (h:Nat.ble Xv g=false):unk (key l g)=g:=by
 cases l with
 | false=>simp [unk,key,h]
 | true=>
   have:Nat.ble Xv (g + Xv)=true:=Nat.ble_eq_true_of_le (by omega)
   simp [unk,key,this]
def V.num:V→Bool
 | .int ..=>true
 | _=>false
abbrev Den:=Nat→List V→Option V
abbrev Sig:=Nat→Option (Nat×Bool)
def KF (D:Den) (σ:Sig) (s:Nat→V) (d:Option Nat) (l o:Bool) (f:O) (args:List O):Option (Nat→V):=
 match f.rd s with
  | some (.fn g fs env)=>match xO args s with
    | some (vs,s1)=>match D (key o g) (V.erases fs++vs++V.erases env),σ (key o g) with
      | some r,some (m,al)=>
        if Nat.ble Xv g then none else
        if al && !((xQ s args).isEmpty && (V.fn g fs env).toks.isEmpty) then none else
        if r.toks.isEmpty && env.all V.one && !(Nat.ble zP m) then place s1 d l (V.tag (d.getD 0) [] m r) else none
      | _,_=>none
    | none=>none
  | _=>none
def zlX:Nat:=zP + 1
def Zc:Nat:=zP + 2
def zc7 (j:Nat):Tok→Tok
 | .at _ _=>.at (zP + j) []
 | .bx _=>.bx (zP + j)
 | k=>k
def ZC (ks:List Tok) (k:Tok):Option Tok:=if k = .nl then some .nl else (ks.findIdx? (fun k'=>k' == k)).map fun j=>zc7 j k
def Ws (ks:List Tok) (k:Tok):Option Tok:=if k = .nl then some .nl else ks.find? fun k'=>ZC ks k' == some k
def Ys (s:Nat→V):List Nat→V→V
 | b :: bs,.ref (.bx r) i q c=>match s b with
   | .ref (.bx r') i' q' c'=>if r'=r∧i'=i∧q'=q then .ref (.bx r') i' q' c' else Ys s bs (.ref (.bx r) i q c)
   | _=>Ys s bs (.ref (.bx r) i q c)
 | _,v=>v
def y5 (s:Nat→V) (bs:List Nat):List Tok:=bs.flatMap fun b=>(s b).toks
def uo (s:Nat→V):List Nat→List Tok
 | [b,_]=>(match s b with
   | .ref t _ _ _=>[t]
   | _=>[])
 | bs=>y5 s bs
theorem zf2 {s:Nat→V} {bs:List Nat} (h:bs.length=1):uo s bs=y5 s bs:=by
 match bs,h with
 | [b],_=>rfl
def Wg (s:Nat→V) (ks:List Tok):List Nat→List V→Option (List (Nat×Nat×List Nat×V))
 | [],[]=>some []
 | b :: bs,u :: us=>match s b,u with
   | .ref (.bx r) i q _,.ref t i' q' c'=>if Ws ks t=some (.bx r)∧i'=i∧q'=q then (Wg s ks bs us).map fun l=>(r,i,q,V.map (Ws ks) (.ref t i' q' c')) :: l else none
   | _,_=>none
 | _,_=>none
def upG (ks:List Tok) (l:List (Nat×Nat×List Nat×V)) (v:V):V:=
 match v with
 | .ref (.bx r) i q c=>match l.find? fun e=>e.1 == r && (e.2.1 == i && e.2.2.1 == q) with
   | some e=>e.2.2.2
   | none=>V.map (ZW ks) (.ref (.bx r) i q c)
 | v=>V.map (ZW ks) v
def W4 (D:Den) (σ:Sig) (s:Nat→V) (f:O) (args:List O) (bs es:List Nat):Option (List Tok×List (Nat×Nat×List Nat×V)×V):=
 match f.rd s,Z0 s args with
 | some (.fn g [] env),some vs=>
   if !((V.tokss (vs++env.map (Ys s bs))).all (y5 s (bs++es)).contains && env.all V.one && es.all fun e=>(s e).ok) then none else
   match D (key false g) (V.maps (ZC (y5 s (bs++es))) (vs++env.map (Ys s bs))),σ (key false g) with
   | some (.tup [r,.tup us]),some (m,_)=>
     if Nat.beq m Zc && !(Nat.ble Xv g) && (r.toks.isEmpty && r.ok) && us.all (fun u=>u.toks.all Tok.pinned) then
      (Wg s (y5 s (bs++es)) bs us).map fun l=>(y5 s (bs++es),l,r)
     else none
   | _,_=>none
 | _,_=>none
def JL (D:Den) (σ:Sig) (s:Nat→V) (d:Option Nat) (f:O) (args:List O) (bs es:List Nat):Option (Nat→V):=
 (W4 D σ s f args bs es).map fun p=>put (fun t=>upG p.1 p.2.1 (s t)) d p.2.2
mutual
def V.live:V→Bool
 | .dead | .gone=>false
 | .int .. | .bool _=>true
 | .sl t h _ xs=>t == .sh || (h.flat || V.lives xs)
 | .ref t _ _ c=>t == .sh || V.live c
 | .agg vs=>V.lives vs
 | .tup vs=>V.lives vs
 | .fn _ fs env=>V.lives fs && V.lives env
 | .lin v=>V.live v
def V.lives:List V→Bool
 | []=>true
 | v :: vs=>V.live v && V.lives vs
end
def yY (D:Den) (σ:Sig) (s:Nat→V) (d:Option Nat) (l:Bool):X→Option (Nat→V)
 | .v a=>(yy s a).map (put s d)
 | .alloc z=>match d with
   | some d=>(match s d with
     | .gone=>some (upd s d (.ref (.bx d) 0 [] z))
     | _=>none)
   | none=>none
 | .box x=>match d,x.rd s with
   | some d,some v=>(match s d with
     | .gone=>if v.mem then some (upd s d (.ref (.bx d) 0 [] v)) else none
     | _=>none)
   | _,_=>none
 | .mk n z _=>match d,n.rd s with
   | some d,some (.int _ m)=>(match s d with
     | .gone=>if 0≤m∧m≤2 ^ 40 then some (upd s d (if l then .lin (.sl (.at d []) z.shape 0 (List.replicate m.toNat z)) else .sl (.at d []) z.shape 0 (List.replicate m.toNat z))) else none
     | _=>none)
   | _,_=>none
 | .lit z len ps=>match d,xX s ps (List.replicate len z) with
   | some d,some xs=>(match s d with
     | .gone=>some (upd s d (if l then .lin (.sl (.at d []) z.shape 0 xs) else .sl (.at d []) z.shape 0 xs))
     | _=>none)
   | _,_=>none
 | .app h x y=>match d,spent s x,y.rd s with
   | some d,some (s1,.sl t g _ xs),some (.sl t2 g2 lo2 ys)=>
     (match s1 d with
      | .gone=>if g.beq h && g2.beq h && (!(V.sl t2 g2 lo2 ys).toks.contains t || (V.tokss ys).isEmpty) && decide (xs.length + ys.length≤2 ^ 40) then
         some (upd s1 d (if l && !(t = .nl∧ys=[]:Bool) then .lin (KC d t g xs ys) else KC d t g xs ys)) else none
      | _=>none)
   | _,_,_=>none
 | .appS h x y=>match d,Wl s x,y.rd s with
   | some d,some (s1,.sl t g _ xs),some (.sl t2 g2 lo2 ys)=>
     (match s1 d with
      | .gone=>if g.beq h && g2.beq h && (!(V.sl t2 g2 lo2 ys).toks.contains t || (V.tokss ys).isEmpty) && decide (xs.length + ys.length≤2 ^ 40) then
         some (upd s1 d (if l && !(t = .nl∧ys=[]:Bool) then .lin (KC d t g xs ys) else KC d t g xs ys)) else none
      | _=>none)
   | _,_,_=>none
 | .store h x y=>match x.rd s,y.rd s with
   | some (.ref t i q c),some v=>if t≠.sh∧t≠.nl∧v.mem=true∧v.shape.beq h=true∧c.shape.beq h=true∧v.toks.contains t=false then some (Uy t i q v s) else none
   | _,_=>none
 | .call f args=>KF D σ s d l false f args
 | .callO f args=>KF D σ s d l true f args
 | .callG _ _ _=>none
 | .callT f args bs es=>JL D σ s d f args bs es
 | .callTN f args bs ds=>if (y5 s bs).all fun k=>!(ds.map Tok.bx).contains k then JL D σ s d f args bs [] else none
 | .vN a bs=>match yy s a with
   | some v=>if (a.rds.all fun t=>(s t).live && (s t).toks.all fun k=>!(uo s bs).contains k) && v.toks.all fun k=>!(uo s bs).contains k && a.rds.any fun t=>(s t).toks.contains k then some (put s d v) else none
   | none=>none
 | .litS z len ps=>match d,xX s ps (List.replicate len z) with
   | some d,some xs=>(match s d with
     | .gone=>some (upd s d (V.frz [.at d []] (.sl (.at d []) z.shape 0 xs)))
     | _=>none)
   | _,_=>none
 | .storeK _ _ _=>none
 | .mark _ _=>none
 | .copy _ _=>none
def step (D:Den) (σ:Sig) (s:Nat→V) (i:I):Option (Nat→V):=
 match i.g with
 | none=>yY D σ s i.d i.l i.x
 | some (j,want)=>match s j with
   | .bool b=>if b=want then yY D σ s i.d i.l i.x else some (put s i.d (.tup []))
   | .tup []=>some (put s i.d (.tup []))
   | _=>none
def Wd (D:Den) (σ:Sig):List I→(Nat→V)→Option (Nat→V)
 | [],s=>some s
 | i :: is,s=>match step D σ s i with
   | some s'=>Wd D σ is s'
   | none=>none
def Xz (P:Program) (f:Nat) (m:Nat) (al:Bool) (args:List V) (r:V):Prop:=
 ∀ (d:Nat) (w:World) (S:Nat→Prop) (τ:Tok→Blk) (vals:Array Value),(∀ b,S b→b < w.heap.size)→yB w S τ args vals.toList→V.tokss args=[] →
  Calls P f vals w fun e w'=>∃ v τ',e = .returned v∧Go.RowKit.Below w.heap.size w w' ∧
   (∀ k∈(V.tag d [] m r).toks,k.root?=some d∧w.heap.size≤(τ' k).b∧(τ' k).b < w'.heap.size) ∧
   (∀ k∈(V.tag d [] m r).toks,∀ k'∈(V.tag d [] m r).toks,(τ' k).b=(τ' k').b→k=k') ∧
   zR w' (fun b=>(al=true∧S b∨w.heap.size≤b)∧b < w'.heap.size∧∀ k∈(V.tag d [] m r).toks,(τ' k).b≠b) τ' (V.tag d [] m r) v
def zgM (P:Program) (f:Nat) (args:List V) (r u:V):Prop:=
 ∀ (w:World) (S:Nat→Prop) (τ:Tok→Blk) (vals:Array Value),(∀ b,S b→b < w.heap.size)→yB w S τ args vals.toList →
  (∀ k∈V.tokss args,k.pinned=true∧(τ k).b < w.heap.size∧¬ S (τ k).b)→(∀ k∈V.tokss args,∀ k'∈V.tokss args,(τ k).b=(τ k').b→k=k')→r.num=true →
  Calls P f vals w fun e w'=>∃ v,e = .returned v∧Bel (fun b=>w.heap.size≤b∨∃ k∈V.tokss args,(τ k).b=b) w w'∧zR w' S τ r v ∧
   ∀ v0,args.head?=some v0→v0.like u=true→u.mine=true→(∀ k∈u.toks,k.pinned=true)→zR w' S τ u (vals.getD 0 undef)
def zgw (P:Program) (f:Nat) (args:List V) (r:V):Prop:=
 ∀ (d:Nat) (w:World) (S:Nat→Prop) (τ:Tok→Blk) (vals:Array Value),(∀ b,S b→b < w.heap.size)→yB w S τ args vals.toList →
  (∀ k∈V.tokss args,k.pinned=true∧(τ k).b < w.heap.size∧¬ S (τ k).b)→(∀ k∈V.tokss args,∀ k'∈V.tokss args,(τ k).b=(τ k').b→k=k') →
  Calls P f vals w fun e w'=>∃ v τ',e = .returned v∧Bel (fun b=>w.heap.size≤b∨∃ k∈V.tokss args,(τ k).b=b) w w' ∧
   (∀ k∈(V.tag d [] 1 r).toks,k.root?=some d∧(w.heap.size≤(τ' k).b∨∃ k2∈V.tokss args,(τ k2).b=(τ' k).b)∧(τ' k).b < w'.heap.size) ∧
   (∀ k∈(V.tag d [] 1 r).toks,∀ k'∈(V.tag d [] 1 r).toks,(τ' k).b=(τ' k').b→k=k') ∧
   zR w' (fun b=>(w.heap.size≤b∨∃ k2∈V.tokss args,(τ k2).b=b)∧b < w'.heap.size∧∀ k∈(V.tag d [] 1 r).toks,(τ' k).b≠b) τ' (V.tag d [] 1 r) v
def Q3 (P:Program) (f:Nat) (args:List V) (r:V) (us:List V):Prop:=
 ∀ (w:World) (S:Nat→Prop) (τ:Tok→Blk) (vals:Array Value),(∀ b,S b→b < w.heap.size)→yB w S τ args vals.toList →
  (∀ k∈V.tokss args,k.pinned=true∧(τ k).b < w.heap.size∧¬ S (τ k).b)→(∀ k∈V.tokss args,∀ k'∈V.tokss args,(τ k).b=(τ k').b→k=k')→r.toks=[] →
  Calls P f vals w fun e w'=>∃ v S',e = .returned v∧Bel (fun b=>w.heap.size≤b∨∃ k∈V.tokss args,(τ k).b=b) w w'∧zR w' S' τ r v ∧
   (∀ b,S' b→b < w'.heap.size∧(S b∨w.heap.size≤b∨∃ k∈V.tokss args,(τ k).b=b)) ∧
   ∀ u∈us,(∀ k∈u.toks,k.pinned=true)→(∀ k∈u.toks,¬ S' (τ k).b)∧∃ c,zR w' S' τ u c
def vd (P:Program) (f:Nat) (m:Nat) (al:Bool) (args:List V) (r:V):Prop:=
 if m=zP then ∀ r' u,r = .tup [r',u]→zgM P f args r' u else if m=zlX then zgw P f args r else if m=Zc then ∀ r' us,r = .tup [r',.tup us]→Q3 P f args r' us else Xz P f m al args r
section
variable {P:Program} {w0:Ori} {S0:Nat→Prop} {n:Nat} {s s1:Nat→V} {a:Act} {w:World} {S:Nat→Prop} {τ:Tok→Blk}
theorem Inv.result (h:Inv w0 S0 n s a w S τ) {w':World} {d:Nat} {v:V} {c:Value} {τ':Tok→Blk} {S':Nat→Prop} (hd:d < n) (hg:s d = .gone) (hb:Go.RowKit.Below w.heap.size w w')
    (hown:∀ k∈v.toks,k.root?=some d∧w.heap.size≤(τ' k).b∧(τ' k).b < w'.heap.size) (hinj:∀ k∈v.toks,∀ k'∈v.toks,(τ' k).b=(τ' k').b→k=k')
    (hr:zR w' S' τ' v c) (hS1:∀ b,S' b→b < w'.heap.size∧(S b∨w0.N b)∧∀ k∈v.toks,(τ' k).b≠b) (hS2:∀ t k,k∈(s t).toks→¬ S' (τ k).b) (l:Bool) (hok:v.ok=true) :
    Inv w0 S0 n (upd s d (if l then .lin v else v)) (a.put (some d) c) w' (fun b=>S b∨S' b) (fun k=>if k.root?=some d then τ' k else τ k):=by
 have hne:∀ t k,k∈(s t).toks→k.root?≠some d:=fun t k hk=>h.gone d t k hg hk
 have htoks:(if l then V.lin v else v).toks=v.toks:=by cases l <;> simp [V.toks]
 have key:∀ t k,k∈(upd s d (if l then .lin v else v) t).toks→(k∈v.toks∧t=d)∨(k∈(s t).toks∧t≠d):=by
  intro t k hk
  by_cases e:t=d
  · subst e;rw [upd_same,htoks] at hk;exact .inl ⟨hk,rfl⟩
  · rw [zX _ _ e] at hk;exact .inr ⟨hk,e⟩
 have hsz:=hb.size
 refine ⟨?_,by rw [Nj];exact h.size,by rw [KN];exact h.defers,?_,?_,?_,?_,fun b hb=>.inl (h.s0 b hb),h.below.trans (.of_below hb),?_,?_,h.small,?_⟩
 · intro t
   by_cases e:t=d
   · subst e
     rw [upd_same,Ur (by rw [h.size];exact hd)]
     have hr':zR w' (fun b=>S b∨S' b) (fun k=>if k.root?=some t then τ' k else τ k) v c:=
      wP (w:=w') (fun b hb=>⟨.inr hb,rfl⟩) v c hr (fun k hk=>⟨by rw [if_pos (hown k hk).1],rfl⟩)
     cases l
     · exact hr'
     · simpa [zR] using hr'
   · rw [zX _ _ e,Kf e]
     exact wP (w:=w) (τ:=τ) (fun b hb'=>⟨.inl hb',hb.block b (h.sbd b hb')⟩) _ _ (h.told t) (fun k hk=>⟨by rw [zy (hne t k hk)],hb.block _ (h.own t k hk).2.1⟩)
 · intro t k hk
   rcases key t k hk with ⟨hk,_⟩ | ⟨hk,_⟩
   · have h1:=hown k hk
     rw [if_pos h1.1]
     refine ⟨w0.up _ (Zf h.below.size h1.2.1),h1.2.2,?_⟩
     rintro (hs | hs)
     · have:=h.sbd _ hs;omega
     · exact (hS1 _ hs).2.2 k hk rfl
   · have h1:=h.own t k hk
     rw [zy (hne t k hk)]
     exact ⟨h1.1,by omega,by rintro (hs | hs);exact h1.2.2 hs;exact hS2 t k hk hs⟩
 · intro t t' k k' hk hk' e
   rcases key t k hk with ⟨hk,_⟩ | ⟨hk,_⟩ <;> rcases key t' k' hk' with ⟨hk',_⟩ | ⟨hk',_⟩
   · rw [if_pos (hown k hk).1,if_pos (hown k' hk').1] at e;exact hinj k hk k' hk' e
   · rw [if_pos (hown k hk).1,zy (hne t' k' hk')] at e
     have h1:=hown k hk;have h2:=h.own t' k' hk';omega
   · rw [zy (hne t k hk),if_pos (hown k' hk').1] at e
     have h1:=hown k' hk';have h2:=h.own t k hk;omega
   · rw [zy (hne t k hk),zy (hne t' k' hk')] at e;exact h.inj t t' k k' hk hk' e
 · rintro b (hs | hs)
   · have:=h.sbd b hs;omega
   · exact (hS1 b hs).1
 · rintro b (hs | hs)
   · exact h.sfr b hs
   · rcases (hS1 b hs).2.1 with h1 | h1
     · exact h.sfr b h1
     · exact .inr h1
 · intro r u t k hl ht hk
   by_cases er:r=d
   · subst er
     rcases key t k hk with ⟨hk,e⟩ | ⟨hk,_⟩
     · exact absurd e ht
     · exact hne t k hk
   · rw [zX _ _ er] at hl
     rcases key t k hk with ⟨hk,e⟩ | ⟨hk,_⟩
     · rw [(hown k hk).1];simp;exact fun e=>er e.symm
     · exact h.lin r u t k hl ht hk
 · intro r t k hg' hk
   by_cases er:r=d
   · subst er
     rw [upd_same] at hg'
     cases l
     · simp at hg';subst hg';simp [V.ok] at hok
     · cases hg'
   · rw [zX _ _ er] at hg'
     rcases key t k hk with ⟨hk,e⟩ | ⟨hk,_⟩
     · rw [(hown k hk).1];simp;exact fun e=>er e.symm
     · exact h.gone r t k hg' hk
 · intro t k hk hp
   rcases key t k hk with ⟨hk,_⟩ | ⟨hk,_⟩
   · obtain ⟨r,e1,e2⟩:=JJ hp
     rw [(hown k hk).1] at e1
     simp only [zn] at e1
     have:=h.small
     omega
   · rw [zy (hne t k hk)];exact h.pin t k hk hp
def J8 (P:Program):List Operand→List TypeId→Option (List O)
 | [],_=>some []
 | x :: xs,ts=>match cO (shE P (ts.headD 0)) x,J8 P xs ts.tail with
   | some o,some os=>some (o :: os)
   | _,_=>none
def zjW (w0:Ori) (S0:Nat→Prop) (n:Nat) (s:Nat→V) (a:Act) (w:World) (S:Nat→Prop) (τ:Tok→Blk) (os:List O) (s1:Nat→V) (vs:List V) (cs:List Value):Prop:=
 Inv w0 S0 n s1 a w S τ∧(∃ K:List Tok,(∀ S' τ',(∀ b,S b→S' b)→(∀ k∈K,S' (τ k).b)→yB w S' τ' vs cs) ∧
     (∀ k∈K,(∃ t,k∈(s t).toks)∧(k∈xQ s os∨∀ t k',k'∈(s1 t).toks→(τ k').b≠(τ k).b)))∧V.tokss vs=[]∧(∀ t,s t = .gone→s1 t = .gone)∧(∀ t k,k∈(s1 t).toks→k∈(s t).toks)
theorem Inv.args:∀ (xs:List Operand) (ts:List TypeId) (os:List O) (s s1:Nat→V) (vs:List V),Inv w0 S0 n s a w S τ→J8 P xs ts=some os→xO os s=some (vs,s1) →
    zjW w0 S0 n s a w S τ os s1 vs (xs.map a.eval)
 | [],ts,os,s,s1,vs,h,hc,ht=>by
   simp [J8] at hc;subst hc
   simp [xO] at ht
   obtain ⟨rfl,rfl⟩:=ht
   exact ⟨h,⟨[],fun S' τ' _ _=>by simp [yB],by simp⟩,rfl,fun t h=>h,fun t k h=>h⟩
 | x :: xs,ts,os,s,s1,vs,h,hc,ht=>by
   simp only [J8] at hc
   split at hc
   · rename_i o os' ho hos
     simp only [zn] at hc;subst hc
     simp only [xO] at ht
     have hrel:=M3 ho h.told
     have stay:∀ v:V,o.ev s=v→v.ok=true→(xO os' s).map (fun p=>(v.erase :: p.1,p.2))=some (vs,s1)→xQ s (o :: os')=v.toks++xQ s os' →
         zjW w0 S0 n s a w S τ (o :: os') s1 vs ((x :: xs).map a.eval):=by
      intro v hv hok ht hheld
      simp only [ye] at ht
      obtain ⟨⟨vs',s1'⟩,ht',e⟩:=ht
      simp only [Prod.mk.injEq] at e
      obtain ⟨rfl,rfl⟩:=e
      obtain ⟨hI,⟨K,hK1,hK2⟩,h0,hg,hsub⟩:=Inv.args xs ts.tail os' s s1' vs' h hos ht'
      have hfrom:∀ k∈v.toks,∃ t,k∈(s t).toks:=by
       have:o.rd s=some v:=by unfold O.rd;rw [hv,if_pos hok]
       intro k hk
       obtain ⟨t,h1,_⟩:=(Jf ho this).1 k hk
       exact ⟨t,h1⟩
      refine ⟨hI,⟨v.toks++K,?_,?_⟩,by simp [V.tokss,XQ,h0],hg,hsub⟩
      · intro S' τ' hS hk
        simp only [yB,List.map_cons]
        refine ⟨_,_,rfl,U8 hS v _ (by rw [← hv];exact hrel) (fun k hk'=>hk k (by simp [hk'])),hK1 S' τ' hS (fun k hk'=>hk k (by simp [hk']))⟩
      · intro k hk
        rw [hheld]
        rcases zO.1 hk with hk | hk
        · exact ⟨hfrom k hk,.inl (by simp [hk])⟩
        · have:=hK2 k hk
          exact ⟨this.1,this.2.imp (fun h=>by simp [h]) id⟩
     split at ht
     · cases ht
     · rename_i v hv
       split at ht
       · rename_i r
         simp only [O.ev] at hv
         simp only [ye] at ht
         obtain ⟨⟨vs',s1'⟩,ht',e⟩:=ht
         simp only [Prod.mk.injEq] at e
         obtain ⟨rfl,rfl⟩:=e
         obtain ⟨hI,⟨K,hK1,hK2⟩,h0,hg,hsub⟩:=Inv.args xs ts.tail os' (upd s r .dead) s1' vs' (h.drop r) hos ht'
         have hupd:∀ t k,k∈(upd s r .dead t).toks→k∈(s t).toks∧t≠r:=by
          intro t k hk
          by_cases e:t=r
          · subst e;rw [upd_same] at hk;simp [V.toks] at hk
          · rw [zX _ _ e] at hk;exact ⟨hk,e⟩
         have hrel':zR w S τ v (a.eval x):=by
          have h1:=hrel
          simp only [O.ev] at h1
          rw [hv] at h1
          simpa [zR] using h1
         have hheld:∀ os:List O,∀ k∈xQ (upd s r .dead) os,k∈xQ s os:=by
          intro os
          induction os with
          | nil=>intro k hk;exact hk
          | cons o' os' ih=>
            intro k hk
            simp only [xQ,zO] at hk ⊢
            rcases hk with hk | hk
            · left
              cases o' with
              | k u=>exact hk
              | t m=>
                simp only [O.ev] at hk ⊢
                by_cases e:m=r
                · subst e;rw [upd_same] at hk;simp [V.toks] at hk
                · rw [zX _ _ e] at hk;exact hk
            · exact .inr (ih k hk)
         refine ⟨hI,⟨v.toks++K,?_,?_⟩,by simp [V.tokss,XQ,h0],?_,fun t k hk=>(hupd t k (hsub t k hk)).1⟩
         · intro S' τ' hS hk
           simp only [yB,List.map_cons]
           exact ⟨_,_,rfl,U8 hS v _ hrel' (fun k hk'=>hk k (by simp [hk'])),hK1 S' τ' hS (fun k hk'=>hk k (by simp [hk']))⟩
         · intro k hk
           rcases zO.1 hk with hk | hk
           · have hin:k∈(s r).toks:=by rw [hv];simpa [V.toks] using hk
             refine ⟨⟨r,hin⟩,?_⟩
             by_cases hroot:k.root?=some r
             · right
               intro t k' hk' e
               have h1:=hupd t k' (hsub t k' hk')
               have:=h.inj t r k' k h1.1 hin e
               subst this
               exact h.lin r v t k' hv h1.2 h1.1 hroot
             · left
               simp only [xQ,O.ev,hv,zO,List.mem_filter,bne_iff_ne]
               exact .inl ⟨hk,hroot⟩
           · have:=hK2 k hk
             obtain ⟨⟨t,ht⟩,h2⟩:=this
             exact ⟨⟨t,(hupd t k ht).1⟩,h2.imp (fun h=>by simp only [xQ,zO];exact .inr (hheld os' k h)) id⟩
         · intro t ht
           exact hg t (by rw [zX _ _ (by rintro rfl;rw [hv] at ht;cases ht)];exact ht)
       · cases ht
     · rename_i v hnl hng
       have hok:(o.ev s).ok=true:=by
        cases hv:o.ev s <;> first | rfl | (exact absurd hv hnl) | (exact absurd hv (hng _))
       exact stay (o.ev s) rfl hok ht (by
        simp only [xQ])
   · cases hc
end
def MQ:Operand→Operand→Bool
 | .tmp t,.tmp t'=>t == t'
 | .const (.int _ m),.const (.int _ n)=>m == n
 | _,_=>false
def Ni (P:Program) (e:TypeId):Option V:=
 match zV P 6 e,P.info? e with
 | some z,some info=>(match info.zero with
   | some zv=>if N4 z zv.cells.toList && info.size == z.shape.size && zv.cells.size == info.size && decide (0 < info.bytes∧info.bytes≤64) then some z else none
   | none=>none)
 | _,_=>none
def cX (P:Program) (op:Op) (ty:TypeId):Option X:=
 match op with
 | .alloc e=>(Ni P e).map .alloc
 | .box e x=>(cO (shE P e) x).map .box
 | .makeSlice t m k=>match P.underlying t,cO .s m with
   | some (.slice e),some m'=>if MQ m k then (Ni P e).map fun z=>.mk m' z.erase z else none
   | _,_=>none
 | .buildSlice t len ps=>match P.underlying t with
   | some (.slice e)=>(match Ni P e with
     | some z=>(match ps.toList.mapM (zcS (fun i=>some (i * z.shape.size,z.shape.size)) (fun _=>shE P e)) with
       | some ps=>if len * z.shape.size≤2 ^ 24 then some (.lit z len ps) else none
       | none=>none)
     | none=>none)
   | _=>none
 | .store t x y=>match shT P 6 t,cO .s x,cO (shE P t) y with
   | some h,some x,some y=>if vD P t == some h.size then some (.store h x y) else none
   | _,_,_=>none
 | .call { callee:=.builtin .append,args,argTypes }=>match args.toList,argTypes.toList with
   | [x,y],[ta,tb]=>(match P.underlying ta,P.underlying tb,cO (shE P ta) x,cO (shE P tb) y with
     | some (.slice e),some (.slice _),some x,some y=>(Ni P e).map fun z=>.app z.shape x y
     | _,_,_,_=>none)
   | _,_=>none
 | .call { callee:=.builtin .copy,args,argTypes }=>match args.toList,argTypes.toList with
   | [x,y],[ta,tb]=>(match P.underlying ta,cO (shE P ta) x,cO (shE P tb) y with
     | some (.slice e),some x,some y=>if vD P e == some 1 then some (.copy x y) else none
     | _,_,_=>none)
   | _,_=>none
 | .call { callee:=.value f,args,argTypes }=>match cO .s f,J8 P args.toList argTypes.toList with
   | some f,some as=>some (.call f as)
   | _,_=>none
 | op=>(cA P op ty).map .v
structure zH (P:Program) (D:Den) (σ:Sig):Prop where
 con:∀ g args r m al,D g args=some r→σ g=some (m,al)→vd P (unk g) m al args r
 fn : ∀ g m al, σ g = some (m, al) → ∃ fn, P.funcs[unk g]? = some fn ∧ fn.body.isNone = false ∧ (fn.name == "runtime.NumGoroutine") = false
section
variable {P:Program} {w0:Ori} {S0:Nat→Prop} {n:Nat} {s s':Nat→V} {a:Act} {w:World} {S:Nat→Prop} {τ:Tok→Blk}
theorem Jk {e:TypeId} {z:V} (h:Ni P e=some z):∃ info zv,P.info? e=some info∧info.zero=some zv∧N4 z zv.cells.toList=true∧info.size=z.shape.size∧zv.cells.size=info.size∧0 < info.bytes∧info.bytes≤64:=by
 unfold Ni at h
 split at h
 · rename_i z' info hz hi
   split at h
   · rename_i zv hzv
     split at h
     · rename_i hc
       simp only [zn] at h;subst h
       simp only [zp,ym,ya] at hc
       exact ⟨info,zv,hi,hzv,hc.1.1.1,hc.1.1.2,hc.1.2,hc.2.1,hc.2.2⟩
     · cases h
   · cases h
 · cases h
theorem Inv.grow (h:Inv w0 S0 n s a w S τ) {w':World} {S':Nat→Prop} (hb:Go.RowKit.Below w.heap.size w w') (hS1:∀ b,S' b→b < w'.heap.size∧(S b∨w0.N b)) (hS2:∀ t k,k∈(s t).toks→¬ S' (τ k).b) :
    Inv w0 S0 n s a w' (fun b=>S b∨S' b) τ:=by
 have hsz:=hb.size
 refine ⟨?_,h.size,h.defers,?_,h.inj,?_,?_,fun b hb=>.inl (h.s0 b hb),h.below.trans (.of_below hb),h.lin,h.gone,h.small,h.pin⟩
 · intro t
   exact wP (w:=w) (τ:=τ) (fun b hb'=>⟨.inl hb',hb.block b (h.sbd b hb')⟩) _ _ (h.told t) (fun k hk=>⟨rfl,hb.block _ (h.own t k hk).2.1⟩)
 · intro t k hk
   have h1:=h.own t k hk
   exact ⟨h1.1,by omega,by rintro (hs | hs);exact h1.2.2 hs;exact hS2 t k hk hs⟩
 · rintro b (hs | hs)
   · have:=h.sbd b hs;omega
   · exact (hS1 b hs).1
 · rintro b (hs | hs)
   · exact h.sfr b hs
   · rcases (hS1 b hs).2 with h1 | h1
     · exact h.sfr b h1
     · exact .inr h1
theorem Inv.putVal (h:Inv w0 S0 n s a w S τ) {v:V} {c:Value} (hr:zR w S τ v c) (hf:Kg s v) (hok:v.ok=true) (d:Option Nat) (hd:∀ k,d=some k→k < n):Inv w0 S0 n (put s d v) (a.put d c) w S τ:=by
 cases d with
 | none=>exact h
 | some d=>exact h.val hr hf hok (hd d rfl)
theorem UM {v:V} (h:v.toks=[]):Kg s v:=by intro k hk;rw [h] at hk;cases hk
theorem WA {w:World} {S:Nat→Prop} {τ:Tok→Blk}:∀ (us vs:List V) (cs ds:List Value),yB w S τ us cs→yB w S τ vs ds→yB w S τ (us++vs) (cs++ds)
 | [],vs,cs,ds,h1,h2=>by simp only [yB] at h1;subst h1;simpa using h2
 | u :: us,vs,cs,ds,h1,h2=>by
   simp only [yB] at h1
   obtain ⟨c,cs',rfl,hc,hcs⟩:=h1
   simp only [XE,yB]
   exact ⟨c,cs'++ds,rfl,hc,WA us vs cs' ds hcs h2⟩
theorem Nc {w:World} {S:Nat→Prop} {τ:Tok→Blk}:∀ (us:List V) (cs:List Value),vY w S τ us cs→yB w S τ us cs
 | [],cs,h=>by simpa [vY,yB] using h
 | u :: us,cs,h=>by
   simp only [vY] at h
   obtain ⟨c,cs',rfl,h1,h2,h3⟩:=h
   simp only [yB]
   refine ⟨c,cs',rfl,?_,Nc us cs' h3⟩
   cases hu:u.isAgg with
   | true=>
     obtain ⟨arr,rfl⟩:=h2.1 hu
     cases u with
     | agg vs=>simp only [zT,Value.cells] at h1;exact ⟨arr,rfl,h1⟩
     | _=>simp [V.isAgg] at hu
   | false=>
     have hc:c.cells.toList=[c]:=by
      cases c with
      | agg arr=>exact absurd (h2.2 ⟨arr,rfl⟩) (by rw [hu];simp)
      | _=>rfl
     rw [hc] at h1
     exact Ww hu h1
theorem KW {w:World} {S:Nat→Prop} {τ:Tok→Blk}:∀ (us:List V) (cs:List Value),yC w S τ us cs→(∀ u∈us,u.one=true)→yB w S τ us cs
 | [],cs,h,_=>by simpa [yC,yB] using h
 | u :: us,cs,h,h1=>by
   simp only [yC] at h
   have hs:=zde (h1 u (by simp))
   rw [hs] at h
   have hl:=vE _ _ _ _ _ h.1
   rw [hs] at hl
   cases cs with
   | nil=>simp at hl
   | cons c cs=>
     simp only [List.take_succ_cons,List.take_zero,List.drop_succ_cons,List.drop_zero] at h
     simp only [yB]
     exact ⟨c,cs,rfl,Ww (zen (h1 u (by simp))) h.1,KW us cs h.2 fun x hx=>h1 x (by simp [hx])⟩
theorem Inv.cell (h:Inv w0 S0 n s a w S τ) {t0:Nat} {r:Nat} {p:List Nat} {lo:Nat} {xs:List V} (hs:s t0 = .sl (.at r p) .s lo xs) {j:Nat} (hj:j < xs.length) {u:V} {cv:Value} (hu:zT w S τ u [cv]) (hus:u.shape = .s) :
    ∃ b off cap w',a.eval (.tmp t0) = .slice (some ⟨b,off,none⟩) xs.length cap∧(storeCells ⟨b,off + j,none⟩ [cv]).run P w = .ok () w'∧Inv w0 S0 n (Uy (.at r p) (lo + j) [] u s) a w' S τ ∧
     (∀ v c,zT w S τ v [c]→v.shape = .s→zT w' S τ v [c]):=by
 have ht:=h.told t0
 rw [hs] at ht
 obtain ⟨a',cap,e,hle,hsx,hsh,hh⟩:=XX ht
 rcases hh with h0 | ⟨b,off,arr,ty,fz,rfl,hw,hp,hfit,hr⟩
 · omega
 · obtain ⟨c,hc⟩:∃ c,xs[j]?=some c:=⟨xs[j],by simp [hj]⟩
   have hcs:c.shape = .s:=hsx c (List.mem_of_getElem? hc)
   have hg:=Y8 xs j c _ hr hc
   rw [Jv xs j hsx (by omega)] at hg
   have hs1:Sh.s.size=1:=rfl
   simp only [hs1,Nat.mul_one] at hg hfit
   have hlen:((arr.toList.drop off).take xs.length).length=xs.length:=by simp;omega
   have hx:zR w S τ (.ref (.at r p) (lo + j) [] c) (.pointer (some ⟨b,off + j,none⟩)):=by
    simp only [zR,zT]
    obtain ⟨h1,h2,h3,h4⟩:=hp
    refine ⟨b,off + j,arr,ty,fz,rfl,hw,⟨h1,h4,0,?_,?_⟩,by rw [hcs];simp only [hs1];omega,by simp,?_⟩
    · rw [Jl,h2,hcs]
    · rw [h2,h3];simp only [hs1];omega
    · have e2:(((arr.toList.drop off).take xs.length).drop j).take c.shape.size=(arr.toList.drop (off + j)).take c.shape.size:=by
       rw [List.drop_take,List.take_take,List.drop_drop,hcs]
       simp only [hs1]
       congr 1;omega
      rw [← e2];exact hg.1
   have hc0:c.toks=[]:=Ko c (by rw [hcs];rfl)
   have hu0:u.toks=[]:=Ko u (by rw [hus];rfl)
   obtain ⟨b',off',w',e3,hrun,hI⟩:=h.store (P:=P) (t:=.at r p) (i:=lo + j) (q:=[]) (c:=c) (v:=u) hx (by
    intro k hk
    simp only [V.toks,hc0,xo] at hk
    subst hk
    exact ⟨t0,by rw [hs];simp [V.toks],by rw [hs];rfl⟩) (by simp) hu (by rw [Kg,hu0];intro k hk;cases hk) (by rw [hus,hcs]) (.inl (by rw [hu0];simp))
   simp only [Value.pointer.injEq,zn,Addr.mk.injEq,and_true] at e3
   obtain ⟨rfl,rfl⟩:=e3
   refine ⟨b,off,cap,w',e,hrun,hI,?_⟩
   intro v c hv hvs
   exact QZ S v _ hv (by rw [hvs];rfl)
end
section
variable {P:Program} {w0:Ori} {S0:Nat→Prop} {n:Nat} {s s':Nat→V} {a:Act} {w:World} {S:Nat→Prop} {τ:Tok→Blk}
theorem zj2 {x y:Operand} {k:IntKind} {m:Int} (h:MQ x y=true) (hx:a.eval x = .int k m):∃ k',a.eval y = .int k' m:=by
 unfold MQ at h
 split at h
 · simp at h;subst h;exact ⟨k,hx⟩
 · simp at h;subst h
   simp only [Act.eval,Value.int.injEq] at hx
   obtain ⟨_,rfl⟩:=hx
   exact ⟨_,rfl⟩
 · cases h
abbrev zba (w0:Ori) (S0:Nat→Prop) (n:Nat) (s':Nat→V) (K:Act→World→Prop):Prop:=∀ a' w' S' τ',Inv w0 S0 n s' a' w' S' τ'→K a' w'
theorem UE {o:Oper} {K:Act→World→Prop} {Q:Exit→Act→World→Prop} {c:Value} {w':World} (h:(execOp a.eval o).run P w = .ok (.value c) w') (hk:K (a.put o.dst c) w'):o.wp P a w K Q:=by
 simp only [Oper.wp,h,Oper.upon];exact hk
theorem zcC {D:Den} {σ:Sig} (hF:zH P D σ) {o:Oper} {f:O} {as:List O} {fo:Operand} {args:Array Operand} {argTypes:Array TypeId} (hop:o.op = .call { callee:=.value fo,args,argTypes })
    (hfo:cO .s fo=some f) (has:J8 P args.toList argTypes.toList=some as) (hI:Inv w0 S0 n s a w S τ) (hd:∀ k,o.dst=some k→k < n) {l ob:Bool} (hst:KF D σ s o.dst l ob f as=some s')
    {K:Act→World→Prop} {Q:Exit→Act→World→Prop} (hK:zba w0 S0 n s' K):o.wp P a w K Q:=by
 simp only [KF] at hst
 split at hst
 · rename_i g fs env hrd
   split at hst
   · rename_i vs s1 hta
     split at hst
     · rename_i r m al hD hσ
       split at hst
       · cases hst
       rename_i hgm
       have hgm:Nat.ble Xv g=false:=by
        cases hb:Nat.ble Xv g with
        | true=>exact absurd hb hgm
        | false=>rfl
       split at hst
       · cases hst
       · rename_i hal
         split at hst
         · rename_i hr
           simp only [zp,List.isEmpty_iff,yN] at hr
           obtain ⟨⟨hr0,hone⟩,hmp⟩:=hr
           have hmp2:m≠zlX:=by
            rintro rfl
            exact absurd hmp (by decide)
           have hmp3:m≠Zc:=by
            rintro rfl
            exact absurd hmp (by decide)
           have hmp:m≠zP:=by
            rintro rfl
            exact absurd hmp (by decide)
           have hfr:=xP hfo hI.told hrd
           have h1:=hfr.1
           simp only [zR,zT] at h1
           obtain ⟨fst,cap,ef,hfs,henv⟩:=h1
           simp only [List.cons.injEq,and_true] at ef
           obtain ⟨hI1,⟨K0,hK1,hK2⟩,hv0,hgone,hsub⟩:=Inv.args args.toList argTypes.toList as s s1 vs hI has hta
           have hfrom:∀ k∈(V.fn g fs env).toks,∃ t,k∈(s t).toks:=fun k hk=>by obtain ⟨t,h,_⟩:=hfr.2.1 k hk;exact ⟨t,h⟩
           let SC:Nat→Prop:=fun b=>S b∨∃ k,(k∈K0∨k∈(V.fn g fs env).toks)∧(τ k).b=b
           have hSC:∀ b,SC b→b < w.heap.size:=by
            rintro b (hb | ⟨k,hk | hk,rfl⟩)
            · exact hI.sbd b hb
            · obtain ⟨⟨t,ht⟩,_⟩:=hK2 k hk;exact (hI.own t k ht).2.1
            · obtain ⟨t,ht⟩:=hfrom k hk;exact (hI.own t k ht).2.1
           have hargs:yB w SC τ (V.erases fs++vs++V.erases env) (fst++args.map a.eval++cap).toList:=by
            have e:(fst++args.map a.eval++cap).toList=fst.toList++args.toList.map a.eval++cap.toList:=by simp
            rw [e]
            refine WA _ _ _ _ (WA _ _ _ _ ?_ ?_) ?_
            · exact Uj (fun b hb=>.inl hb) fs _ (Nc fs _ hfs) (fun k hk=>.inr ⟨k,.inr (by simp [V.toks,hk]),rfl⟩)
            · exact hK1 SC τ (fun b hb=>.inl hb) (fun k hk=>.inr ⟨k,.inl hk,rfl⟩)
            · exact Uj (fun b hb=>.inl hb) env _ (KW env _ henv hone) (fun k hk=>.inr ⟨k,.inr (by simp [V.toks,hk]),rfl⟩)
           have hargs0:V.tokss (V.erases fs++vs++V.erases env)=[]:=by rw [Xs,Xs,Zr,Zr,hv0];rfl
           obtain ⟨fn,hfn,hbody,hname⟩:=hF.fn _ m al hσ
           rw [ME hgm] at hfn
           have hcon:Xz P g m al (V.erases fs++vs++V.erases env) r:=by
            have:=hF.con _ _ r m al hD hσ
            rw [ME hgm] at this
            unfold vd at this
            rw [zy hmp,zy hmp2,zy hmp3] at this
            exact this
           have hcall:=hcon (o.dst.getD 0) w SC τ (fst++args.map a.eval++cap) hSC hargs hargs0
           have hexec:(execOp a.eval o).run P w = .ok (.enter g (fst++args.map a.eval++cap)) w:=by
            simp only [execOp,hop,resolve,ef,Deferred.ofValue,xp,Sem.run_pure,xi,invoke,callFunc,run_program,hfn,hname,hbody,yD,yb]
           simp only [Oper.wp,hexec,Oper.upon]
           refine hcall.mono ?_
           rintro e w' ⟨v,τ',rfl,hbel,hown,hinj,hrel⟩
           have hS2:∀ t k,k∈(s1 t).toks→¬ ((al=true∧SC (τ k).b∨w.heap.size≤(τ k).b)∧(τ k).b < w'.heap.size∧∀ k'∈(V.tag (o.dst.getD 0) [] m r).toks,(τ' k').b≠(τ k).b):=by
            rintro t k hk ⟨⟨hal',hs⟩ | hs,_⟩
            · rcases hs with hs | ⟨k',hk',e⟩
              · exact (hI1.own t k hk).2.2 hs
              · have hal2:(xQ s as).isEmpty=true∧(V.fn g fs env).toks.isEmpty=true:=by
                 simp only [hal',z6,yT,Bool.not_eq_false'] at hal
                 simpa using hal
                simp only [List.isEmpty_iff] at hal2
                rcases hk' with hk' | hk'
                · rcases (hK2 k' hk').2 with h | h
                  · rw [hal2.1] at h;cases h
                  · exact h t k hk e.symm
                · rw [hal2.2] at hk';cases hk'
            · have:=(hI1.own t k hk).2.1;omega
           have hS1:∀ b,((al=true∧SC b∨w.heap.size≤b)∧b < w'.heap.size∧∀ k'∈(V.tag (o.dst.getD 0) [] m r).toks,(τ' k').b≠b)→b < w'.heap.size∧(S b∨w0.N b)∧∀ k'∈(V.tag (o.dst.getD 0) [] m r).toks,(τ' k').b≠b:=by
            rintro b ⟨h1,h2,h3⟩
            refine ⟨h2,?_,h3⟩
            rcases h1 with ⟨_,hs | ⟨k,hk,rfl⟩⟩ | hs
            · exact .inl hs
            · right
              rcases hk with hk | hk
              · obtain ⟨⟨t,ht⟩,_⟩:=hK2 k hk;exact (hI.own t k ht).1
              · obtain ⟨t,ht⟩:=hfrom k hk;exact (hI.own t k ht).1
            · exact .inr (w0.up _ (Zf hI.below.size hs))
           unfold Zq.place at hst
           split at hst
           · rename_i ht0
             simp only [List.isEmpty_iff] at ht0
             split at hst
             · rename_i hok
               simp only [zn] at hst;subst hst
               have hg:=hI1.grow hbel (S':=fun b=>(al=true∧SC b∨w.heap.size≤b)∧b < w'.heap.size∧∀ k'∈(V.tag (o.dst.getD 0) [] m r).toks,(τ' k').b≠b) (fun b hb=>⟨(hS1 b hb).1,(hS1 b hb).2.1⟩) hS2
               exact hK _ _ _ _ (hg.putVal (wP (w:=w') (τ:=τ') (fun b hb=>⟨.inr hb,rfl⟩) _ _ hrel (by rw [ht0];intro k hk;cases hk)) (UM ht0) hok o.dst hd)
             · cases hst
           · split at hst
             · rename_i d hdst
               split at hst
               · rename_i hsd
                 split at hst
                 · rename_i hok
                   simp only [zn] at hst;subst hst
                   rw [hdst] at hown hinj hrel hS1 hS2 ⊢
                   simp only [y3] at hown hinj hrel hS1 hS2 hok ⊢
                   rw [hdst] at hok
                   simp only [y3] at hok
                   have:=hI1.result (d:=d) (v:=V.tag d [] m r) (hd d hdst) hsd hbel hown hinj hrel hS1 hS2 l hok
                   rw [hdst] at hK
                   exact hK _ _ _ _ this
                 · cases hst
               · cases hst
             · cases hst
         · cases hst
     · cases hst
   · cases hst
 · cases hst
theorem Bel.mono {N N':Nat→Prop} {w w':World} (h:Bel N w w') (hn:∀ b,N b→N' b):Bel N' w w':=
 ⟨h.os,h.tape,h.output,h.size,fun k hk hk'=>h.block k hk (fun e=>hk' (hn k e)),h.rows⟩
structure Rem (w w':World) (S:Nat→Prop) (τ:Tok→Blk) (ks:List Tok) (nv:V):Prop where
 shared:∀ b,S b→w'.heap[b]?=w.heap[b]?
 rows:∀ (b:Nat) (arr:Array Value) (ty:TypeId) (fz:Nat×Nat),w.heap[b]?=some (.cells arr ty fz)→∃ arr',w'.heap[b]?=some (.cells arr' ty fz)∧arr'.size=arr.size
 sub:∀ t h ys,V.sub t nv=some (h,ys)→∃ c,zT w' S τ (.sl t h 0 ys) [c]
theorem M2:∀ {xs:List Operand} {ts:List TypeId} {os:List O} {vs:List V},J8 P xs ts=some os→Z0 s os=some vs→Mz w S τ s a→yB w S τ vs (xs.map a.eval)
 | [],ts,os,vs,hc,hr,ht=>by
   simp [J8] at hc;subst hc
   simp [Z0] at hr;subst hr
   simp [yB]
 | x :: xs,ts,os,vs,hc,hr,ht=>by
   simp only [J8] at hc
   split at hc
   · rename_i o os' ho hos
     simp only [zn] at hc;subst hc
     simp only [Z0] at hr
     split at hr
     · rename_i v vs' hv hvs
       simp only [zn] at hr;subst hr
       simp only [yB,List.map_cons]
       exact ⟨_,_,rfl,(xP ho ht hv).1,M2 hos hvs ht⟩
     · cases hr
   · cases hc
theorem Inv.growB (h:Inv w0 S0 n s a w S τ) {w':World} {S' B:Nat→Prop} (hb:Bel (fun b=>w.heap.size≤b∨B b) w w')
    (hB:∀ b,B b→b < w.heap.size∧¬ S b∧w0.N b∧∀ t k,k∈(s t).toks→(τ k).b≠b) (hS1:∀ b,S' b→b < w'.heap.size∧(w.heap.size≤b∨B b)) :
    Inv w0 S0 n s a w' (fun b=>S b∨S' b) τ:=by
 have hsz:=hb.size
 have hfree:∀ b,b < w.heap.size→¬ B b→w'.heap[b]?=w.heap[b]?:=by
  intro b h1 h2
  refine hb.block b h1 ?_
  rintro (h3 | h3)
  · omega
  · exact h2 h3
 have hSB:∀ b,S b→¬ B b:=fun b h1 h2=>(hB b h2).2.1 h1
 have hTB:∀ t k,k∈(s t).toks→¬ B (τ k).b:=fun t k hk h2=>(hB _ h2).2.2.2 t k hk rfl
 refine ⟨?_,h.size,h.defers,?_,h.inj,?_,?_,fun b hb=>.inl (h.s0 b hb),h.below.trans (hb.mono ?_),h.lin,h.gone,h.small,h.pin⟩
 · intro t
   exact wP (w:=w) (τ:=τ) (fun b hb'=>⟨.inl hb',hfree b (h.sbd b hb') (hSB b hb')⟩) _ _ (h.told t) (fun k hk=>⟨rfl,hfree _ (h.own t k hk).2.1 (hTB t k hk)⟩)
 · intro t k hk
   have h1:=h.own t k hk
   refine ⟨h1.1,by omega,?_⟩
   rintro (hs | hs)
   · exact h1.2.2 hs
   · rcases (hS1 _ hs).2 with h2 | h2
     · omega
     · exact hTB t k hk h2
 · rintro b (hs | hs)
   · have:=h.sbd b hs;omega
   · exact (hS1 b hs).1
 · rintro b (hs | hs)
   · exact h.sfr b hs
   · rcases (hS1 b hs).2 with h1 | h1
     · exact .inr (w0.up _ (Zf h.below.size h1))
     · exact .inr (hB _ h1).2.2.1
 · rintro b (h1 | h1)
   · exact w0.up _ (Zf h.below.size h1)
   · exact (hB _ h1).2.2.1
theorem zkG {op:Op} {ty:TypeId} {f:O} {as:List O} (h:cX P op ty=some (.call f as)):∃ fo args argTypes,op = .call { callee:=.value fo,args,argTypes }∧cO .s fo=some f∧J8 P args.toList argTypes.toList=some as:=by
 unfold cX at h
 split at h
 all_goals first
  | (rename_i fo args argTypes
     split at h
     · rename_i f' as' h1 h2
       simp only [zn,X.call.injEq] at h
       obtain ⟨rfl,rfl⟩:=h
       exact ⟨fo,args,argTypes,rfl,h1,h2⟩
     · cases h;done)
  | (exfalso;simp only [ye] at h;obtain ⟨_,_,h⟩:=h;cases h;done)
  | (exfalso;repeat' split at h
     all_goals first
      | (cases h;done)
      | (simp only [ye] at h;obtain ⟨_,_,h⟩:=h;cases h;done))
end
section
variable {P:Program} {w0:Ori} {S0:Nat→Prop} {n:Nat} {s s':Nat→V} {a:Act} {w:World} {S:Nat→Prop} {τ:Tok→Blk}
theorem JA {z:V} (k:Nat):∀ x∈List.replicate k z,x.shape=z.shape:=by
 intro x hx;rw [List.eq_of_mem_replicate hx]
theorem Wo {z:V} (h:z.toks=[]):∀ k,V.tokss (List.replicate k z)=[]
 | 0=>rfl
 | k + 1=>by simp [List.replicate_succ,V.tokss,h,Wo h k]
theorem zuh {op:Op} {ty:TypeId} {m:O} {z z0:V} (h:cX P op ty=some (.mk m z z0)):∃ t mm k e,op = .makeSlice t mm k∧P.underlying t=some (.slice e)∧cO .s mm=some m∧MQ mm k=true∧Ni P e=some z0∧z=z0.erase:=by
 unfold cX at h
 split at h
 all_goals first
  | (rename_i t mm k
     split at h
     · rename_i e m' hu hm
       split at h
       · rename_i hs
         simp only [ye,X.mk.injEq] at h
         obtain ⟨z1,h1,rfl,rfl,rfl⟩:=h
         exact ⟨t,mm,k,e,rfl,hu,hm,hs,h1,rfl⟩
       · cases h
     · cases h;done)
  | (exfalso;simp only [ye] at h;obtain ⟨_,_,h⟩:=h;cases h;done)
  | (exfalso;repeat' split at h
     all_goals first
      | (cases h;done)
      | (simp only [ye] at h;obtain ⟨_,_,h⟩:=h;cases h;done))
theorem zjx {D:Den} {σ:Sig} {o:Oper} {x:O} {z z0 zz zz':V} (hc:cX P o.op o.type=some (.mk x z z0)) (hzz:zz=z∨zz=z0) (hI:Inv w0 S0 n s a w S τ) (hd:∀ k,o.dst=some k→k < n) {l:Bool} (hst:yY D σ s o.dst l (.mk x zz zz')=some s')
    {K:Act→World→Prop} {Q:Exit→Act→World→Prop} (hK:zba w0 S0 n s' K):o.wp P a w K Q:=by
 obtain ⟨t,m,k,e,hop,hu,hm,hsame,hz,rfl⟩:=zuh hc
 simp only [yY] at hst
 split at hst
 · rename_i d kk mm hdst hrd
   split at hst
   · rename_i hg
     split at hst
     · rename_i hmm
       simp only [zn] at hst;subst hst
       obtain ⟨info,zv,hi,hzv,hcz,hsz,hzs,hb1,hb2⟩:=Jk hz
       have hsz:info.size=zz.shape.size:=by
        rcases hzz with rfl | rfl
        · rw [Xf];exact hsz
        · exact hsz
       have hcr:zT w S τ zz zv.cells.toList∧zz.toks=[]:=by
        have h0:=Lf (w:=w) (S:=S) (τ:=τ) z0 _ hcz
        rcases hzz with rfl | rfl
        · exact ⟨uU (fun _ h=>h) _ _ h0.1 (by rw [h0.2];intro k hk;cases hk),XQ _⟩
        · exact h0
       have hev:=Xk (xP hm hI.told hrd).1
       obtain ⟨k',hev'⟩:=zj2 hsame hev
       have hrun:=N2 (P:=P) (w:=w) (k:=kk) (k':=k') hu hi hzv hmm.1 hmm.2 (by omega) hzs.symm
       refine UE (c:=.slice (some ⟨w.heap.size,0,none⟩) mm.toNat mm.toNat) (w':=Wm w (Yi zv.cells (mm.toNat * info.size)) e) (by simp [execOp,hop,hev,hev',hrun]) ?_
       have hnew:=hI.newList (hd d hdst) hg (g:=zz.shape) (xs:=List.replicate mm.toNat zz) (arr:=Yi zv.cells (mm.toNat * info.size)) e (cap:=mm.toNat) (JA _) (by simp) (by simp [Yi,hsz]) ?_ (by rw [Wo hcr.2];intro k hk;cases hk) l
       · rw [hdst]
         simp only [List.length_replicate] at hnew
         exact hK _ _ _ _ hnew
       · simp only [List.length_replicate]
         refine Uh hcr.1 _ _ fun i=>?_
         by_cases hz0:zv.cells.size=0
         · have:zz.shape.size=0:=by omega
           rw [this]
           simp
         · rw [← hsz]
           exact zag zv.cells _ _ (by omega) (xF _) i
     · cases hst
   · cases hst
 · cases hst
theorem zcf {D:Den} {σ:Sig} (hF:zH P D σ) {o:Oper} {x:X} (hc:cX P o.op o.type=some x) (hI:Inv w0 S0 n s a w S τ) (hd:∀ k,o.dst=some k→k < n) {l:Bool} (hst:yY D σ s o.dst l x=some s')
    (hstore:∀ h y z,x = .store h y z→o.dst=none) {K:Act→World→Prop} {Q:Exit→Act→World→Prop} (hK:zba w0 S0 n s' K):o.wp P a w K Q:=by
 have hc0:=hc
 unfold cX at hc
 split at hc
 · -- alloc
   rename_i e hop
   simp only [ye] at hc
   obtain ⟨z,hz,rfl⟩:=hc
   simp only [yY] at hst
   split at hst
   · rename_i d hdst
     split at hst
     · rename_i hg
       simp only [zn] at hst;subst hst
       obtain ⟨info,zv,hi,hzv,hcz,_⟩:=Jk hz
       have hcr:=Lf (w:=w) (S:=S) (τ:=τ) z _ hcz
       have hrun:=zgB (P:=P) (w:=w) hi hzv
       refine UE (c:=.pointer (some ⟨w.heap.size,0,none⟩)) (w':=Wm w zv.cells e) (by simp [execOp,hop,hrun]) ?_
       rw [hdst]
       exact hK _ _ _ _ (hI.newBox (hd d hdst) hg e hcr.1 (UM hcr.2))
     · cases hst
   · cases hst
 · -- box
   rename_i e x' hop
   simp only [ye] at hc
   obtain ⟨x'',hx,rfl⟩:=hc
   simp only [yY] at hst
   split at hst
   · rename_i d v hdst hrd
     split at hst
     · rename_i hg
       split at hst
       · rename_i hm
         simp only [zn] at hst;subst hst
         have r:=xP hx hI.told hrd
         refine UE (c:=.pointer (some ⟨w.heap.size,0,none⟩)) (w':=Wm w (a.eval x').cells e) (by simp [execOp,hop,zku]) ?_
         rw [hdst]
         exact hK _ _ _ _ (hI.newBox (hd d hdst) hg e (U6 r.1 (zbI hm) (MR hm) (K1 hm)) r.2.1)
       · cases hst
     · cases hst
   · cases hst
 · -- makeSlice
   have hx:∃ m0 z z0,x = .mk m0 z z0:=by
    split at hc
    · split at hc
      · simp only [ye] at hc;obtain ⟨z,_,rfl⟩:=hc;exact ⟨_,_,_,rfl⟩
      · cases hc
    · cases hc
   obtain ⟨m0,z,z0,rfl⟩:=hx
   exact zjx hc0 (.inl rfl) hI hd hst hK
 · -- buildSlice
   rename_i t len ps hop
   split at hc
   · rename_i e hu
     split at hc
     · rename_i z hz
       split at hc
       · rename_i ps' hps
         split at hc
         · rename_i hlen
           simp only [zn] at hc;subst hc
           simp only [yY] at hst
           split at hst
           · rename_i d xs hdst hbld
             split at hst
             · rename_i hg
               simp only [zn] at hst;subst hst
               obtain ⟨info,zv,hi,hzv,hcz,hsz,hzs,hb1,hb2⟩:=Jk hz
               have hcr:=Lf (w:=w) (S:=S) (τ:=τ) z _ hcz
               have hzr:yC w S τ (List.replicate len z) (Yi zv.cells (len * z.shape.size)).toList:=by
                refine Uh hcr.1 _ _ fun i=>?_
                by_cases hz0:zv.cells.size=0
                · have:z.shape.size=0:=by omega
                  rw [this];simp [Yi]
                · exact Mn zv.cells _ i (by omega)
               obtain ⟨cells',hfill,hrel,hshapes,htk⟩:=NT _ _ ps.toList ps' (List.replicate len z) xs (Yi zv.cells (len * z.shape.size)) hps hbld (by
                intro i u hu
                rw [List.getElem?_replicate] at hu
                split at hu
                · simp at hu;subst hu;exact ⟨_,rfl⟩
                · cases hu) hI.told hzr
               have hxs:∀ x∈xs,x.shape=z.shape:=Us hshapes (JA _)
               have hxl:xs.length=len:=by
                have:=congrArg List.length hshapes
                rw [U3,U3] at this
                simpa using this
               have hcl:cells'.size=len * z.shape.size:=by
                have:=UG _ _ _ _ _ hrel
                rw [YD xs hxs,hxl] at this
                simpa using this
               have hzvr:(zeroValue e).run P w = .ok zv w:=by simp [zeroValue,typeInfo,hi,hzv]
               have hrun:(Instr.buildSlice t len (ps.map fun (i,x)=>(i,a.eval x))).run P w = .ok (.slice (some ⟨w.heap.size,0,none⟩) len len) (Wm w cells' e):=by
                have hl:(ps.map fun (i,x)=>(i,a.eval x)).toList=ps.toList.map fun x=>(x.1,a.eval x.2):=by simp
                have hng:¬ (len * info.size > 2 ^ 24):=by rw [hsz];omega
                have hsr:=uy (P:=P) (t:=e) (n:=info.size) (by simp [vD,hi]) w
                simp only [Instr.buildSlice,xp,run_underlying hu,xi,hsr,Sem.run_ite,hng,yb,Sem.run_pure,hl]
                by_cases h0:len * info.size=0
                · simp only [h0,z5]
                  have hf0:Instr.fill (fun i=>some (i * info.size,info.size)) ((Array.range 0).map (fun x=>(#[]:Array Value)[x % (#[]:Array Value).size]!)) (ps.toList.map fun x=>(x.1,a.eval x.2))=some cells':=by
                   rw [← hfill]
                   rw [hsz] at h0 ⊢
                   rw [h0]
                   have er:Array.range 0=#[]:=rfl
                   simp [Yi,er]
                  rw [hf0]
                  simp [newRow,Wm]
                · simp only [h0,yb,hzvr,xi]
                  have hf1:Instr.fill (fun i=>some (i * info.size,info.size)) ((Array.range (len * info.size)).map (fun x=>zv.cells[x % zv.cells.size]!)) (ps.toList.map fun x=>(x.1,a.eval x.2))=some cells':=by
                   rw [← hfill,hsz];rfl
                  rw [hf1]
                  simp [newRow,Wm]
               refine UE (c:=.slice (some ⟨w.heap.size,0,none⟩) len len) (w':=Wm w cells' e) (by simp [execOp,hop,hrun]) ?_
               have hnew:=hI.newList (hd d hdst) hg (g:=z.shape) (xs:=xs) (arr:=cells') e (cap:=len) hxs (by omega) (by omega) (by rw [List.take_of_length_le (by simp;rw [hxl];omega)];exact hrel) (by
                intro k hk
                rcases htk k hk with h | h
                · rw [Wo hcr.2] at h;cases h
                · exact h) l
               rw [hdst]
               rw [hxl] at hnew
               exact hK _ _ _ _ hnew
             · cases hst
           · cases hst
         · cases hc
       · cases hc
     · cases hc
   · cases hc
 · -- store
   rename_i t x' y' hop
   split at hc
   · rename_i h x'' y'' hh hx hy
     split at hc
     · rename_i hsz
       simp only [zn] at hc;subst hc
       simp only [yY] at hst
       split at hst
       · rename_i tk i q c v hrd hrd2
         split at hst
         · rename_i hcond
           simp only [zn] at hst;subst hst
           obtain ⟨h1,h2,h3,h4,h5,h6⟩:=hcond
           simp only [ym] at hsz
           have r1:=xP hx hI.told hrd
           have r2:=xP hy hI.told hrd2
           have hv:=U6 r2.1 (zbI h3) (MR h3) (K1 h3)
           have e4:=Sh.beq_eq _ _ h4
           have e5:=Sh.beq_eq _ _ h5
           obtain ⟨b,off,w',ex,hrun,hI'⟩:=hI.store (P:=P) r1.1 r1.2.1 ⟨h1,h2⟩ hv r2.2.1 (by rw [e4,e5]) (.inl (by simpa using h6))
           have hl:=vE _ _ _ _ _ hv
           have hex:(execOp a.eval o).run P w = .ok .skip w':=by
            have hsr:=uy hsz w
            have hne:¬ ((a.eval y').cells.size≠h.size):=by simp at hl ⊢;rw [hl,e4]
            simp only [execOp,hop,xp,Instr.storeAt,ex,Instr.sureAddr,Sem.run_pure,xi,storeVar,hsr,Sem.run_ite,hne,yb,hrun]
           simp only [Oper.wp,hex,Oper.upon]
           rw [hstore _ _ _ rfl]
           exact hK _ _ _ _ hI'
         · cases hst
       · cases hst
     · cases hc
   · cases hc
 · -- append
   rename_i args argTypes hop
   split at hc
   · rename_i x' y' ta tb hargs htys
     split at hc
     · rename_i e e2 x'' y'' hua hub hx hy
       simp only [ye] at hc
       obtain ⟨z,hz,rfl⟩:=hc
       simp only [yY] at hst
       split at hst
       · rename_i d s1 t g lo xs t2 g2 lo2 ys hdst hsp hyr
         split at hst
         · rename_i hg
           split at hst
           · rename_i hcond
             simp only [zp,y8,yT,ya,List.isEmpty_iff] at hcond
             simp only [zn] at hst;subst hst
             obtain ⟨⟨⟨hg1,hg2⟩,htt⟩,hlen⟩:=hcond
             have e1:=Sh.beq_eq _ _ hg1
             have e2':=Sh.beq_eq _ _ hg2
             subst e1;subst e2'
             obtain ⟨info,zv,hi,hzv,hcz,hsz,hzs,hb1,hb2⟩:=Jk hz
             have ea:args=#[x',y']:=by apply Array.ext';simpa using hargs
             have et:argTypes=#[ta,tb]:=by apply Array.ext';simpa using htys
             subst ea;subst et
             obtain ⟨c,w',τ',hrun,hI'⟩:=hI.append (P:=P) (ty:=o.type) hx hy hsp hyr (by simpa using htt) (hd d hdst) hg l hua hub hi hzv hsz hzs ⟨hb1,hb2⟩ hlen
             refine UE (c:=c) (w':=w') ?_ ?_
             · simp only [execOp,hop,resolve,xp,Sem.run_pure,xi,invoke,builtin,List.map_toArray,List.map_cons,List.map_nil,hrun]
             · rw [hdst];exact hK _ _ _ _ hI'
           · cases hst
         · cases hst
       · cases hst
     · cases hc
   · cases hc
 · -- copy
   rename_i args argTypes hop
   split at hc
   · rename_i x' y' ta tb hargs htys
     split at hc
     · rename_i e x'' y'' hua hx hy
       split at hc
       · rename_i hsz
         simp only [ym] at hsz
         simp only [zn] at hc;subst hc
         exact absurd hst (by simp [yY])
       · cases hc
     · cases hc
   · cases hc
 · -- call
   rename_i f args argTypes hop
   split at hc
   · rename_i f' as hf has
     simp only [zn] at hc;subst hc
     exact zcC hF hop hf has hI hd (ob:=false) hst hK
   · cases hc
 · -- values
   simp only [ye] at hc
   obtain ⟨A,hA,rfl⟩:=hc
   simp only [yY,ye] at hst
   obtain ⟨v,hv,rfl⟩:=hst
   obtain ⟨c,h1,h2,h3,h4⟩:=zxr (P:=P) (o:=o) hA hv hI.told
   exact UE h1 (hK _ _ _ _ (hI.putVal h2 h3 h4 o.dst hd))
end
theorem zlA {K:List Tok} {v u:V} (h:V.frz K v = .lin u):∃ u',v = .lin u':=by
 cases v with
 | lin u'=>exact ⟨u',rfl⟩
 | sl t g lo xs=>cases t <;> simp only [V.frz] at h <;> (repeat' split at h) <;> cases h
 | ref t i q c=>cases t <;> simp only [V.frz] at h <;> (repeat' split at h) <;> cases h
 | _=>simp [V.frz] at h
theorem zki {K:List Tok} {v:V} (h:V.frz K v = .gone):v = .gone:=by
 cases v with
 | gone=>rfl
 | sl t g lo xs=>cases t <;> simp only [V.frz] at h <;> (repeat' split at h) <;> cases h
 | ref t i q c=>cases t <;> simp only [V.frz] at h <;> (repeat' split at h) <;> cases h
 | _=>simp [V.frz] at h
section
variable {P:Program} {w0:Ori} {S0:Nat→Prop} {n:Nat} {s s':Nat→V} {a:Act} {w:World} {S:Nat→Prop} {τ:Tok→Blk}
theorem Inv.frz (h:Inv w0 S0 n s a w S τ) {K:List Tok} (hK:∀ k∈K,∃ t,k∈(s t).toks):Inv w0 S0 n (fun t=>V.frz K (s t)) a w (fun b=>S b∨∃ k∈K,(τ k).b=b) τ:=by
 have hn:K.contains .nl=false:=by
  cases hc:K.contains .nl with
  | false=>rfl
  | true=>
    obtain ⟨t,ht⟩:=hK .nl (by simpa using hc)
    exact absurd rfl (ZB _ _ ht).2
 refine ⟨?_,h.size,h.defers,?_,?_,?_,?_,fun b hb=>.inl (h.s0 b hb),h.below,?_,?_,h.small,fun t k hk=>h.pin t k (YE K _ k hk).1⟩
 · intro t
   exact NE (fun b hb=>.inl hb) (fun k hk=>.inr ⟨k,by simpa using hk,rfl⟩) hn _ _ (h.told t)
 · intro t k hk
   obtain ⟨h1,h2⟩:=YE K _ k hk
   have h3:=h.own t k h1
   refine ⟨h3.1,h3.2.1,?_⟩
   rintro (hs | ⟨k',hk',e⟩)
   · exact h3.2.2 hs
   · obtain ⟨t',ht'⟩:=hK k' hk'
     have:=h.inj t' t k' k ht' h1 e
     subst this
     have:K.contains k'=true:=by simpa using hk'
     rw [this] at h2;cases h2
 · intro t t' k k' hk hk' e
   exact h.inj t t' k k' (YE K _ k hk).1 (YE K _ k' hk').1 e
 · rintro b (hb | ⟨k,hk,rfl⟩)
   · exact h.sbd b hb
   · obtain ⟨t,ht⟩:=hK k hk;exact (h.own t k ht).2.1
 · rintro b (hb | ⟨k,hk,rfl⟩)
   · exact h.sfr b hb
   · obtain ⟨t,ht⟩:=hK k hk;exact .inr (h.own t k ht).1
 · intro r v t k hl ht hk
   obtain ⟨u,hu⟩:=zlA hl
   exact h.lin r u t k hu ht (YE K _ k hk).1
 · intro r t k hg hk
   exact h.gone r t k (zki hg) (YE K _ k hk).1
theorem Lz (ht:Mz w S τ s a):∀ (bs:List Nat) (e:V) (c:Value),zR w S τ e c→zR w S τ (Ys s bs e) c
 | [],e,c,h=>by simpa [Ys] using h
 | b :: bs,e,c,h=>by
   cases e with
   | ref t0 i q c0=>
     cases t0 with
     | bx r=>
       simp only [Ys]
       split
       · rename_i r' i' q' c' hs
         split
         · rename_i he
           obtain ⟨rfl,rfl,rfl⟩:=he
           have h1:=ht b
           rw [hs] at h1
           obtain ⟨b1,off1,arr1,ty1,fz1,e1,hw1,hp1,_⟩:=Z5 h
           obtain ⟨b2,off2,arr2,ty2,fz2,e2,hw2,hp2,_⟩:=Z5 h1
           have e3:c=a.eval (.tmp b):=by
            rw [e1,e2]
            simp only [Wp] at hp1 hp2
            obtain ⟨p1,_,o1,p2,p3⟩:=hp1
            obtain ⟨q1,_,o2,q2,q3⟩:=hp2
            rw [p2] at q2
            simp only [zn,Prod.mk.injEq] at q2
            rw [← p1,← q1,p3,q3,q2.1]
           rw [e3];exact h1
         · exact Lz ht bs _ c h
       · exact Lz ht bs _ c h
     | _=>simpa [Ys] using h
   | _=>simpa [Ys] using h
theorem Qn (ht:Mz w S τ s a) (bs:List Nat):∀ (env:List V) (cs:List Value),yB w S τ env cs→yB w S τ (env.map (Ys s bs)) cs
 | [],cs,h=>by simpa [yB] using h
 | e :: env,cs,h=>by
   simp only [yB,List.map_cons] at h ⊢
   obtain ⟨c,cs',e1,h1,h2⟩:=h
   exact ⟨c,cs',e1,Lz ht bs e c h1,Qn ht bs env cs' h2⟩
theorem Xu {bs:List Nat} {k:Tok} (h:k∈y5 s bs):∃ b∈bs,k∈(s b).toks:=by
 unfold y5 at h
 exact XK.1 h
theorem Kv {ks:List Tok} {k x:Tok} (hk:k≠.nl) (h:ZC ks k=some x):∃ j:Nat,ks[j]?=some k∧x=zc7 j k:=by
 unfold ZC at h
 rw [zy hk] at h
 simp only [ye] at h
 obtain ⟨j,hj,rfl⟩:=h
 refine ⟨j,?_,rfl⟩
 rw [List.findIdx?_eq_some_iff_getElem] at hj
 obtain ⟨hlt,h1,_⟩:=hj
 rw [yW hlt]
 simpa using h1
theorem zgr {ks:List Tok} {k k' x:Tok} (hk:k≠.nl∧k≠.sh) (hk':k'≠.nl∧k'≠.sh) (h:ZC ks k=some x) (h':ZC ks k'=some x):k=k':=by
 obtain ⟨j,h1,e1⟩:=Kv hk.1 h
 obtain ⟨j',h2,e2⟩:=Kv hk'.1 h'
 have hj:j=j':=by
  rw [e1] at e2
  cases k <;> cases k' <;> simp [zc7] at e2 hk hk' <;> omega
 subst hj
 rw [h1] at h2
 exact Option.some.inj h2
theorem zgn {ks:List Tok} {k x:Tok} (hk:k≠.nl) (h:ZC ks k=some x):k∈ks:=by
 obtain ⟨j,h1,_⟩:=Kv hk h
 exact List.mem_of_getElem? h1
theorem Wh {ks:List Tok} {k x:Tok} (hk:k≠.nl∧k≠.sh) (h:ZC ks k=some x):x≠.nl∧x.pinned=true∧((∃ r p r' p',k = .at r p∧x = .at r' p')∨∃ r r',k = .bx r∧x = .bx r'):=by
 obtain ⟨j,_,e⟩:=Kv hk.1 h
 subst e
 cases k with
 | nl=>exact absurd rfl hk.1
 | sh=>exact absurd rfl hk.2
 | «at» r p=>exact ⟨by simp [zc7],Qz rfl (Nat.le_add_right _ _),.inl ⟨_,_,_,_,rfl,rfl⟩⟩
 | bx r=>exact ⟨by simp [zc7],Qz rfl (Nat.le_add_right _ _),.inr ⟨_,_,rfl,rfl⟩⟩
theorem Z2 {ks:List Tok} {k x:Tok} (hx:x≠.nl) (h:Ws ks x=some k):k∈ks∧ZC ks k=some x:=by
 unfold Ws at h
 rw [zy hx] at h
 exact ⟨List.mem_of_find?_eq_some h,by simpa using List.find?_some h⟩
theorem Ma {ks:List Tok} (hks:∀ k∈ks,k≠.nl∧k≠.sh) {k x:Tok} (hk:k≠.nl∧k≠.sh) (h:ZC ks k=some x):Ws ks x=some k:=by
 have hx:=(Wh hk h).1
 have hm:=zgn hk.1 h
 cases hb:Ws ks x with
 | none=>
   unfold Ws at hb
   rw [zy hx,List.find?_eq_none] at hb
   exact absurd (by simpa using h) (hb k hm)
 | some k'=>
   obtain ⟨h1,h2⟩:=Z2 hx hb
   rw [zgr hk (hks k' h1) h h2]
def QK (ks:List Tok) (τ:Tok→Blk):Tok→Blk:=fun k=>match Ws ks k with
 | some k'=>τ k'
 | none=>τ k
theorem Xn {ks:List Tok} (hks:∀ k∈ks,k≠.nl∧k≠.sh) {k x:Tok} (hk:k≠.nl∧k≠.sh) (h:ZC ks k=some x):QK ks τ x=τ k:=by
 unfold QK;rw [Ma hks hk h]
theorem zg1 {ks:List Tok} (hks:∀ k∈ks,k≠.nl∧k≠.sh):MC (ZC ks) τ (QK ks τ):=by
 refine ⟨?_,?_,rfl⟩
 · intro r p k h
   refine ⟨Xn hks (by simp) h,?_⟩
   rcases (Wh (by simp) h).2.2 with ⟨_,_,r',p',_,e⟩ | ⟨_,_,e,_⟩
   · exact ⟨r',p',e⟩
   · cases e
 · intro r k h
   refine ⟨Xn hks (by simp) h,?_⟩
   rcases (Wh (by simp) h).2.2 with ⟨_,_,_,_,e,_⟩ | ⟨_,r',_,e⟩
   · cases e
   · exact ⟨r',e⟩
theorem zgv {ks:List Tok} (hks:∀ k∈ks,k≠.nl∧k≠.sh):MC (Ws ks) (QK ks τ) τ:=by
 refine ⟨?_,?_,rfl⟩
 · intro r p k h
   have h1:=Z2 (by simp) h
   refine ⟨(Xn hks (hks k h1.1) h1.2).symm,?_⟩
   rcases (Wh (hks k h1.1) h1.2).2.2 with ⟨r',p',_,_,e,_⟩ | ⟨_,_,_,e⟩
   · exact ⟨r',p',e⟩
   · cases e
 · intro r k h
   have h1:=Z2 (by simp) h
   refine ⟨(Xn hks (hks k h1.1) h1.2).symm,?_⟩
   rcases (Wh (hks k h1.1) h1.2).2.2 with ⟨_,_,_,_,_,e⟩ | ⟨r',_,e,_⟩
   · cases e
   · exact ⟨r',e⟩
theorem UD {ks:List Tok}:∀ {bs:List Nat} {us:List V} {l:List (Nat×Nat×List Nat×V)},Wg s ks bs us=some l →
    (∀ e∈l,∃ b∈bs,∃ c t' c',s b = .ref (.bx e.1) e.2.1 e.2.2.1 c∧V.ref t' e.2.1 e.2.2.1 c'∈us∧Ws ks t'=some (.bx e.1)∧e.2.2.2=V.map (Ws ks) (.ref t' e.2.1 e.2.2.1 c')) ∧
    ∀ b∈bs,∃ r i q c,s b = .ref (.bx r) i q c∧∃ e∈l,e.1=r∧e.2.1=i∧e.2.2.1=q
 | [],us,l,h=>by
   cases us with
   | nil=>simp only [Wg,zn] at h;subst h;exact ⟨fun e he=>(nomatch he),fun b hb=>(nomatch hb)⟩
   | cons u us=>simp [Wg] at h
 | b :: bs,[],l,h=>by simp [Wg] at h
 | b :: bs,u :: us,l,h=>by
   simp only [Wg] at h
   split at h
   · rename_i r i q c t' i' q' c' hs
     split at h
     · rename_i hc
       obtain ⟨hb,rfl,rfl⟩:=hc
       simp only [ye] at h
       obtain ⟨l',h3,rfl⟩:=h
       obtain ⟨ih1,ih2⟩:=UD h3
       refine ⟨fun e he=>?_,fun b' hb'=>?_⟩
       · rcases yf.1 he with rfl | he
         · exact ⟨b,by simp,c,t',c',hs,by simp,hb,rfl⟩
         · obtain ⟨b1,h1,c1,t1,c2,h4,h5,h6,h7⟩:=ih1 e he
           exact ⟨b1,by simp [h1],c1,t1,c2,h4,by simp [h5],h6,h7⟩
       · rcases yf.1 hb' with rfl | hb'
         · exact ⟨r,i',q',c,hs,_,Y7,rfl,rfl,rfl⟩
         · obtain ⟨r1,i1,q1,c1,h4,e,he,h5⟩:=ih2 b' hb'
           exact ⟨r1,i1,q1,c1,h4,e,by simp [he],h5⟩
     · cases h
   · cases h
theorem WW {ks:List Tok} {l:List (Nat×Nat×List Nat×V)} (v:V):(∃ e∈l,∃ c,v = .ref (.bx e.1) e.2.1 e.2.2.1 c∧upG ks l v=e.2.2.2)∨upG ks l v=V.map (ZW ks) v:=by
 unfold upG
 split
 · rename_i r i q c
   split
   · rename_i e he
     have h1:=List.mem_of_find?_eq_some he
     have h2:=List.find?_some he
     simp only [zp,ym] at h2
     obtain ⟨rfl,rfl,rfl⟩:=h2
     exact .inl ⟨e,h1,c,rfl,rfl⟩
   · exact .inr rfl
 · exact .inr rfl
theorem zlc {D:Den} {σ:Sig} (hF:zH P D σ) {o:Oper} {f:O} {as:List O} {bs es:List Nat} {fo:Operand} {args:Array Operand} {argTypes:Array TypeId} (hop:o.op = .call { callee:=.value fo,args,argTypes })
    (hfo:cO .s fo=some f) (has:J8 P args.toList argTypes.toList=some as) (hI:Inv w0 S0 n s a w S τ) (hd:∀ k,o.dst=some k→k < n) {l:Bool} (hst:yY D σ s o.dst l (.callT f as bs es)=some s')
    {K:Act→World→Prop} {Q:Exit→Act→World→Prop} (hK:zba w0 S0 n s' K):o.wp P a w K Q:=by
 simp only [yY,JL,ye] at hst
 obtain ⟨p,hst,rfl⟩:=hst
 unfold W4 at hst
 split at hst
 case h_2=>cases hst
 rename_i g env vs hrd hvs
 split at hst
 · cases hst
 rename_i hc0
 simp only [yT,Bool.not_eq_false,zp,yN] at hc0
 obtain ⟨⟨hsub,hone⟩,hes⟩:=hc0
 split at hst
 case h_2=>cases hst
 rename_i r us m al hD hσ
 split at hst
 case isFalse=>cases hst
 rename_i hcond
 simp only [zp] at hcond
 simp only [List.isEmpty_iff] at hcond
 obtain ⟨⟨⟨hm,hgm⟩,hru,hrok⟩,hup⟩:=hcond
 have hgm:Nat.ble Xv g=false:=by simpa using hgm
 have hm:m=Zc:=Nat.eq_of_beq_eq_true hm
 subst hm
 simp only [ye] at hst
 obtain ⟨lb,hlb,rfl⟩:=hst
 generalize hks:y5 s (bs++es)=ks at *
 have hkm:∀ k∈ks,∃ b∈bs++es,k∈(s b).toks:=fun k hk=>Xu (hks ▸ hk)
 have hko:∀ k∈ks,k≠.nl∧k≠.sh:=fun k hk=>by
  obtain ⟨b,_,h⟩:=hkm k hk
  exact ⟨(ZB _ k h).2,(ZB _ k h).1⟩
 obtain ⟨hl1,hl2⟩:=UD hlb
 have hfr:=xP hfo hI.told hrd
 have h1:=hfr.1
 simp only [zR,zT] at h1
 obtain ⟨fst,cap,ef,hfs,henv⟩:=h1
 simp only [List.cons.injEq,and_true] at ef
 have hfst:fst=#[]:=by
  have:fst.toList=[]:=by simpa [vY] using hfs
  exact Array.toList_eq_nil_iff.1 this
 subst hfst
 have hargs:yB w S τ (vs++env.map (Ys s bs)) (args.map a.eval++cap).toList:=by
  have e:(args.map a.eval++cap).toList=args.toList.map a.eval++cap.toList:=by simp
  rw [e]
  exact WA _ _ _ _ (M2 has hvs hI.told) (Qn hI.told bs _ _ (KW env _ henv hone))
 have hargs':=L8 (zg1 hko) _ _ hargs
 have hin:∀ k∈V.tokss (V.maps (ZC ks) (vs++env.map (Ys s bs))),∃ k0∈ks,ZC ks k0=some k:=by
  intro k hk
  obtain ⟨k0,h0,e⟩:=XD (ZC ks) rfl _ k hk
  exact ⟨k0,by simpa using hsub k0 h0,e⟩
 obtain ⟨fn,hfn,hbody,hname⟩:=hF.fn _ Zc al hσ
 rw [ME hgm] at hfn
 have hcon:=hF.con _ _ _ Zc al hD hσ
 rw [ME hgm] at hcon
 unfold vd at hcon
 rw [zy (by decide),zy (by decide),if_pos rfl] at hcon
 have hcall:=hcon r us rfl w S (QK ks τ) (args.map a.eval++cap) hI.sbd hargs' (by
     intro k hk
     obtain ⟨k0,h0,e⟩:=hin k hk
     obtain ⟨b,_,hb⟩:=hkm k0 h0
     have h3:=hI.own b k0 hb
     rw [Xn hko (hko k0 h0) e]
     exact ⟨(Wh (hko k0 h0) e).2.1,h3.2.1,h3.2.2⟩) (by
     intro k hk k' hk' e
     obtain ⟨k0,h0,e0⟩:=hin k hk
     obtain ⟨k1,h1,e1⟩:=hin k' hk'
     obtain ⟨b,_,hb⟩:=hkm k0 h0
     obtain ⟨b',_,hb'⟩:=hkm k1 h1
     rw [Xn hko (hko k0 h0) e0,Xn hko (hko k1 h1) e1] at e
     have:=hI.inj b b' k0 k1 hb hb' e
     subst this
     rw [e0] at e1
     exact Option.some.inj e1) hru
 have hexec:(execOp a.eval o).run P w = .ok (.enter g (args.map a.eval++cap)) w:=by
  simp only [execOp,hop,resolve,ef,Deferred.ofValue,xp,Sem.run_pure,xi,invoke,callFunc,run_program,hfn,hname,hbody,yD,yb]
  simp
 simp only [Oper.wp,hexec,Oper.upon]
 refine hcall.mono ?_
 rintro e w' ⟨c,S',rfl,hbel,hrr,hS',hus⟩
 let B:Nat→Prop:=fun b=>∃ k∈ks,(τ k).b=b
 have hinB:∀ b,(∃ k∈V.tokss (V.maps (ZC ks) (vs++env.map (Ys s bs))),(QK ks τ k).b=b)→B b:=by
  rintro b ⟨k,hk,rfl⟩
  obtain ⟨k0,h0,e⟩:=hin k hk
  exact ⟨k0,h0,by rw [Xn hko (hko k0 h0) e]⟩
 have hbel':Bel (fun b=>w.heap.size≤b∨B b) w w':=hbel.mono fun b h=>h.imp id (hinB b)
 have hnl0:ks.contains .nl=false:=by
  cases hb:ks.contains .nl with
  | false=>rfl
  | true=>exact absurd rfl (hko .nl (by simpa using hb)).1
 have hnl:(fun k:Tok=>ks.contains k) .nl=false:=hnl0
 have hI1:=hI.kill (fun k=>ks.contains k) hnl
 have hkt:∀ t k,k∈(V.map (ZW ks) (s t)).toks→k∈(s t).toks∧k∉ks:=by
  intro t k hk
  have h2:=Km (p:=fun k=>ks.contains k) hnl hk
  exact ⟨h2.1,by simpa using h2.2⟩
 have hB:∀ b,B b→b < w.heap.size∧¬ S b∧w0.N b∧∀ t k,k∈(WZ (fun k=>if ks.contains k then none else some k) s t).toks→(τ k).b≠b:=by
  rintro b ⟨k,hk,rfl⟩
  obtain ⟨b0,_,hb0⟩:=hkm k hk
  have h3:=hI.own b0 k hb0
  refine ⟨h3.2.1,h3.2.2,h3.1,fun t k' hk' e=>?_⟩
  obtain ⟨h4,h5⟩:=hkt t k' hk'
  have:=hI.inj t b0 k' k h4 hb0 e
  subst this
  exact h5 hk
 have hg:=hI1.growB (B:=B) (S':=fun b=>S' b∧(w.heap.size≤b∨B b)) hbel' hB (fun b hb=>⟨(hS' b hb.1).1,hb.2⟩)
 have hSS:∀ b,S' b→S b∨(S' b∧(w.heap.size≤b∨B b)):=by
  intro b hb
  rcases (hS' b hb).2 with h | h | h
  · exact .inl h
  · exact .inr ⟨hb,.inl h⟩
  · exact .inr ⟨hb,.inr (hinB b h)⟩
 have hback:∀ en∈lb,(∃ c1,en.2.2.2 = .ref (.bx en.1) en.2.1 en.2.2.1 c1)∧(∃ cv,zR w' (fun b=>S b∨(S' b∧(w.heap.size≤b∨B b))) τ en.2.2.2 cv)∧∀ k∈en.2.2.2.toks,k∈ks∧¬ S' (τ k).b:=by
  intro en hen
  obtain ⟨b,_,c0,t',c',_,h5,h6,h7⟩:=hl1 en hen
  have hpin:∀ k∈(V.ref t' en.2.1 en.2.2.1 c').toks,k.pinned=true:=by
   have:=yN.1 hup _ h5
   exact fun k hk=>yN.1 this k hk
  obtain ⟨h8,cv,h9⟩:=hus _ h5 hpin
  have h10:=La (zgv (τ:=τ) hko) _ _ h9
  have ht':t'≠.nl∧t'≠.sh:=by
   constructor
   · rintro rfl;simp [Ws] at h6
   · rintro rfl
     have:=(Z2 (by simp) h6).2
     have h11:=(Wh (hko _ (Z2 (by simp) h6).1) this).2.1
     cases h11
  refine ⟨⟨V.map (Ws ks) c',?_⟩,⟨cv,?_⟩,?_⟩
  · rw [h7]
    cases t' with
    | nl=>exact absurd rfl ht'.1
    | sh=>exact absurd rfl ht'.2
    | «at» _ _=>simp only [V.map,h6]
    | bx _=>simp only [V.map,h6]
  · rw [h7]
    exact wP (w:=w') (fun b hb=>⟨hSS b hb,rfl⟩) _ _ h10 (fun k _=>⟨rfl,rfl⟩)
  · intro k hk
    rw [h7] at hk
    obtain ⟨k0,h0,e0⟩:=Uc (Ws ks) rfl _ k hk
    have hk0:k0≠.nl:=(ZB _ k0 h0).2
    have h15:=Z2 hk0 e0
    refine ⟨h15.1,?_⟩
    have h16:=h8 k0 h0
    rw [Xn hko (hko k h15.1) h15.2] at h16
    exact h16
 have hin2:∀ t k,k∈(upG ks lb (s t)).toks→(k∈ks∧¬ S' (τ k).b)∨(k∈(s t).toks∧k∉ks):=by
  intro t k hk
  rcases WW (ks:=ks) (l:=lb) (s t) with ⟨en,hen,_,_,h⟩ | h
  · rw [h] at hk;exact .inl ((hback en hen).2.2 k hk)
  · rw [h] at hk;exact .inr (hkt t k hk)
 have hin3:∀ t k,k∈(upG ks lb (s t)).toks→∃ t0,k∈(s t0).toks:=by
  intro t k hk
  rcases hin2 t k hk with ⟨h,_⟩ | ⟨h,_⟩
  · obtain ⟨b,_,hb⟩:=hkm k h;exact ⟨b,hb⟩
  · exact ⟨t,h⟩
 have hlin:∀ r u,upG ks lb (s r) = .lin u→∃ u',s r = .lin u':=by
  intro r u hl
  rcases WW (ks:=ks) (l:=lb) (s r) with ⟨en,hen,_,_,h⟩ | h
  · obtain ⟨⟨_,e⟩,_⟩:=hback en hen
    rw [h,e] at hl;cases hl
  · rw [h] at hl;exact zb4 hl
 have hgone:∀ r,upG ks lb (s r) = .gone→s r = .gone:=by
  intro r hl
  rcases WW (ks:=ks) (l:=lb) (s r) with ⟨en,hen,_,_,h⟩ | h
  · obtain ⟨⟨_,e⟩,_⟩:=hback en hen
    rw [h,e] at hl;cases hl
  · rw [h] at hl;exact N0 hl
 have hfin:Inv w0 S0 n (fun t=>upG ks lb (s t)) a w' (fun b=>S b∨(S' b∧(w.heap.size≤b∨B b))) τ:=by
  refine ⟨?_,hI.size,hI.defers,?_,?_,hg.sbd,hg.sfr,hg.s0,hg.below,?_,?_,hI.small,?_⟩
  · intro t
    show zR _ _ _ (upG ks lb (s t)) _
    rcases WW (ks:=ks) (l:=lb) (s t) with ⟨en,hen,c1,hst1,h⟩ | h
    · obtain ⟨⟨c2,e2⟩,⟨cv,h12⟩,_⟩:=hback en hen
      have h13:=hI.told t
      rw [hst1] at h13
      have h14:=h12
      rw [e2] at h14
      obtain ⟨b1,off1,arr1,ty1,fz1,e1,hw1,hp1,_⟩:=Z5 h13
      obtain ⟨b2,off2,arr2,ty2,fz2,e3,hw2,hp2,_⟩:=Z5 h14
      have e4:a.eval (.tmp t)=cv:=by
       rw [e1,e3]
       simp only [Wp] at hp1 hp2
       obtain ⟨p1,_,o1,p2,p3⟩:=hp1
       obtain ⟨q1,_,o2,q2,q3⟩:=hp2
       rw [p2] at q2
       simp only [zn,Prod.mk.injEq] at q2
       rw [← p1,← q1,p3,q3,q2.1]
      rw [h,e4];exact h12
    · rw [h];exact hg.told t
  · intro t k hk
    obtain ⟨t0,h0⟩:=hin3 t k hk
    have h1:=hI.own t0 k h0
    refine ⟨h1.1,Yj h1.2.1 hbel.size,?_⟩
    rintro (hs | ⟨hs,hs2⟩)
    · exact h1.2.2 hs
    · rcases hin2 t k hk with ⟨_,h⟩ | ⟨h,hn⟩
      · exact h hs
      · rcases hs2 with h2 | ⟨k',hk',e⟩
        · omega
        · obtain ⟨b,_,hb⟩:=hkm k' hk'
          have:=hI.inj b t k' k hb h e
          subst this
          exact hn hk'
  · intro t t' k k' hk hk' e
    obtain ⟨t0,h0⟩:=hin3 t k hk
    obtain ⟨t1,h1⟩:=hin3 t' k' hk'
    exact hI.inj t0 t1 k k' h0 h1 e
  · intro r u t k hl ht hk
    obtain ⟨u',hu'⟩:=hlin r u hl
    rcases hin2 t k hk with ⟨h1,_⟩ | ⟨h1,_⟩
    · obtain ⟨b,hb,hbk⟩:=hkm k h1
      refine hI.lin r u' b k hu' ?_ hbk
      rintro rfl
      rcases zO.1 hb with hb | hb
      · obtain ⟨_,_,_,_,e,_⟩:=hl2 b hb
        rw [hu'] at e;cases e
      · have:=hes b hb
        rw [hu'] at this;simp [V.ok] at this
    · exact hI.lin r u' t k hu' ht h1
  · intro r t k hg' hk
    obtain ⟨t0,h0⟩:=hin3 t k hk
    exact hI.gone r t0 k (hgone r hg') h0
  · intro t k hk hp
    obtain ⟨t0,h0⟩:=hin3 t k hk
    exact hI.pin t0 k h0 hp
 exact hK _ _ _ _ (hfin.putVal (wP (w:=w') (fun b hb=>⟨hSS b hb,rfl⟩) _ _ hrr (by rw [hru];intro k hk;cases hk)) (UM hru) hrok o.dst hd)
theorem zho {D:Den} {σ:Sig} {s':Nat→V} {d:Option Nat} {l:Bool} {f:O} {as:List O} {bs ds:List Nat} (h:yY D σ s d l (.callTN f as bs ds)=some s'):yY D σ s d l (.callT f as bs [])=some s':=by
 simp only [yY] at h ⊢
 split at h
 · exact h
 · cases h
theorem zrw {D:Den} {σ:Sig} {d:Option Nat} {l:Bool} {A0:A} {bs:List Nat} (h:yY D σ s d l (.vN A0 bs)=some s'):yY D σ s d l (.v A0)=some s':=by
 simp only [yY] at h ⊢
 split at h
 · rename_i v hv
   split at h
   · simp only [hv,yU];exact h
   · cases h
 · cases h
mutual
theorem U1 {K:List Tok} (hn:K.contains .nl=false):∀ v:V,(∀ k∈v.toks,K.contains k=false)→V.frz K v=v
 | .dead,_ | .gone,_ | .int ..,_ | .bool _,_=>rfl
 | .lin v,h=>by simp only [V.frz];rw [U1 hn v (by simpa [V.toks] using h)]
 | .agg vs,h=>by simp only [V.frz];rw [Y6 hn vs (by simpa [V.toks] using h)]
 | .tup vs,h=>by simp only [V.frz];rw [Y6 hn vs (by simpa [V.toks] using h)]
 | .fn g fs env,h=>by simp only [V.frz];rw [Y6 hn fs fun k hk=>h k (by simp [V.toks,hk]),Y6 hn env fun k hk=>h k (by simp [V.toks,hk])]
 | .ref t i q c,h=>by
   cases t with
   | sh=>rfl
   | nl=>simp only [V.frz,hn];rw [U1 hn c fun k hk=>h k (by simp [V.toks,hk])];rfl
   | «at» r p=>
     have h1:=h (.at r p) (by simp [V.toks])
     simp only [V.frz,h1];rw [U1 hn c fun k hk=>h k (by simp [V.toks,hk])];rfl
   | bx r=>
     have h1:=h (.bx r) (by simp [V.toks])
     simp only [V.frz,h1];rw [U1 hn c fun k hk=>h k (by simp [V.toks,hk])];rfl
 | .sl t g lo xs,h=>by
   cases t with
   | sh=>rfl
   | nl=>
     simp only [V.frz,hn]
     by_cases hf:g.flat=true
     · simp [hf]
     · have hf:g.flat=false:=by simpa using hf
       simp only [hf]
       rw [Y6 hn xs fun k hk=>h k (by simp [V.toks,hf,hk])];rfl
   | «at» r p=>
     have h1:=h (.at r p) (by simp [V.toks])
     simp only [V.frz,h1]
     by_cases hf:g.flat=true
     · simp [hf]
     · have hf:g.flat=false:=by simpa using hf
       simp only [hf]
       rw [Y6 hn xs fun k hk=>h k (by simp [V.toks,hf,hk])];rfl
   | bx r=>
     have h1:=h (.bx r) (by simp [V.toks])
     simp only [V.frz,h1]
     by_cases hf:g.flat=true
     · simp [hf]
     · have hf:g.flat=false:=by simpa using hf
       simp only [hf]
       rw [Y6 hn xs fun k hk=>h k (by simp [V.toks,hf,hk])];rfl
theorem Y6 {K:List Tok} (hn:K.contains .nl=false):∀ vs:List V,(∀ k∈V.tokss vs,K.contains k=false)→V.frzs K vs=vs
 | [],_=>rfl
 | v :: vs,h=>by simp only [V.frzs];rw [U1 hn v fun k hk=>h k (by simp [V.tokss,hk]),Y6 hn vs fun k hk=>h k (by simp [V.tokss,hk])]
end
theorem zjj {D:Den} {σ:Sig} (hF:zH P D σ) {o:Oper} {z:V} {len:Nat} {ps:List (Nat×Nat×O)} (hc:cX P o.op o.type=some (.lit z len ps)) (hI:Inv w0 S0 n s a w S τ) (hd:∀ k,o.dst=some k→k < n) {l:Bool}
    (hst:yY D σ s o.dst l (.litS z len ps)=some s') {K:Act→World→Prop} {Q:Exit→Act→World→Prop} (hK:zba w0 S0 n s' K):o.wp P a w K Q:=by
 simp only [yY] at hst
 split at hst
 · rename_i d xs hdst hbld
   split at hst
   · rename_i hg
     simp only [zn] at hst;subst hst
     have hsame:(fun t=>V.frz [.at d []] (upd s d (.sl (.at d []) z.shape 0 xs) t))=upd s d (V.frz [.at d []] (.sl (.at d []) z.shape 0 xs)):=by
      funext t
      by_cases e:t=d
      · subst e;rw [upd_same,upd_same]
      · rw [zX _ _ e,zX _ _ e]
        refine U1 (by simp) _ fun k hk=>?_
        have:=hI.gone d t k hg hk
        cases hc:([Tok.at d []]:List Tok).contains k with
        | false=>rfl
        | true=>
          have:k = .at d []:=by simpa using hc
          subst this
          simp [Tok.root?] at this
     refine zcf hF hc hI hd (l:=false) (s':=upd s d (.sl (.at d []) z.shape 0 xs)) ?_ (fun _ _ _ e=>by cases e) fun a' w' S' τ' hI'=>hK _ _ _ _ (hsame ▸ hI'.frz (K:=[.at d []]) ?_)
     · simp only [yY,hdst,hbld,hg];rfl
     · intro k hk
       simp only [xo] at hk
       subst hk
       exact ⟨d,by simp [V.toks]⟩
   · cases hst
 · cases hst
end
end Go.Zq
