/- The pure machine: what the model of Go does, told of values without memory (part 2). No further condition. -/
import Derived.Test.YtkmhlpopclahcacK1
import Derived.Orders
import Derived.Tactics
set_option linter.unusedVariables false
set_option linter.unusedSimpArgs false
namespace Go.Zq
section
variable {P:Program} {w0:Ori} {S0:Nat→Prop} {n:Nat} {s s1:Nat→V} {a:Act} {w:World} {S:Nat→Prop} {τ:Tok→Blk}
def WW (d:Nat) (t:Tok) (g:Sh) (xs ys:List V):V:=if t = .nl∧ys=[] then .sl .nl g 0 [] else .sl (.at d []) g 0 (xs++ys)
theorem UH {N:Nat→Prop} {w1 w:World} (h:Bel N w1 w) (k:Nat):Bel N w1 { w with drawn:=k }:=⟨h.os,h.tape,h.output,h.size,h.block,h.rows⟩
theorem Yr:∀ xs ys:List V,V.tokss (xs++ys)=V.tokss xs++V.tokss ys
 | [],ys=>rfl
 | x :: xs,ys=>by simp [V.tokss,Yr xs ys]
theorem Mx (L:List Value) (i j k:Nat):((L.drop i).take (j + k)).take j=(L.drop i).take j∧((L.drop i).take (j + k)).drop j=(L.drop (i + j)).take k:=by
 constructor
 · rw [List.take_take,Nat.min_eq_left (by omega)]
 · rw [List.drop_take,List.drop_drop,Nat.add_sub_cancel_left]
theorem Inv.append (h:Inv w0 S0 n s a w S τ) {x y:O} {X Y:Operand} {hx hy:Sh} (hxo:cO hx X=some x) (hyo:cO hy Y=some y) {t t2:Tok} {g:Sh} {lo lo2:Nat} {xs ys:List V}
    (hs:Zq.spent s x=some (s1,.sl t g lo xs)) (hyr:y.rd s=some (.sl t2 g lo2 ys)) (htt:t∉(V.sl t2 g lo2 ys).toks∨V.tokss ys=[]) {d:Nat} (hd:d < n) (hg:s1 d = .gone) (l:Bool)
    {ta tb e eb ty:TypeId} {info:TypeInfo} {z:Value} (hua:P.underlying ta=some (.slice e)) (hub:P.underlying tb=some (.slice eb)) (hi:P.info? e=some info) (hz:info.zero=some z) (hsz:info.size=g.size) (hzs:z.cells.size=info.size) (hbytes:0 < info.bytes∧info.bytes≤64)
    (hlen:xs.length + ys.length≤2 ^ 40) :
    ∃ c w' τ',(Builtin.append_ #[ta,tb] ty #[a.eval X,a.eval Y]).run P w = .ok c w' ∧
     Inv w0 S0 n (upd s1 d (if l && !(t = .nl∧ys=[]:Bool) then .lin (WW d t g xs ys) else WW d t g xs ys)) (a.put (some d) c) w' S τ':=by
 obtain ⟨hI,t',g',lo',xs',hv,hcase,hsub,hgs,hls,hgone,hkeep1⟩:=h.spent hs
 simp only [V.sl.injEq] at hv
 obtain ⟨rfl,rfl,rfl,rfl⟩:=hv
 have hxr:zu w S τ (.sl t g lo xs) (a.eval X):=by
  have h0:=MS hxo h.told
  unfold Zq.spent at hs
  split at hs
  · rename_i r
    simp only [O.ev] at h0
    split at hs
    · rename_i r' p g0 lo0 xs0 hsr
      split at hs
      · simp only [Option.some.injEq,Prod.mk.injEq] at hs
        rw [hsr] at h0
        simp only [zu] at h0
        rw [← hs.2];exact h0
      · cases hs
    · rename_i r' p g0 lo0 xs0 hsr
      split at hs
      · simp only [Option.some.injEq,Prod.mk.injEq] at hs
        rw [hsr] at h0
        rw [← hs.2];exact h0
      · cases hs
    · rename_i g0 lo0 xs0 hsr
      simp only [Option.some.injEq,Prod.mk.injEq] at hs
      rw [hsr] at h0
      rw [← hs.2];exact h0
    · cases hs
  · rename_i g0 lo0 xs0
    simp only [Option.some.injEq,Prod.mk.injEq] at hs
    rw [← hs.2];exact h0
  · cases hs
 have hyr':=za3 hyo h.told hyr
 have hyf:=W8 hyo hyr
 obtain ⟨news,hnews,hnr,hnl⟩:=K4 (P:=P) hyr' (e:=info.size) hsz
 obtain ⟨aX,cap,eX,hle,hsx,hshx,hhx⟩:=Zk hxr
 obtain ⟨aY,capY,eY,hleY,hsy,hshy,hhy⟩:=Zk hyr'
 have hys1:∀ k∈V.tokss ys,∃ t0,k∈(s1 t0).toks∧(s1 t0).ok=true:=by
  intro k hk
  rcases htt with htt | htt
  · have hk':k∈(V.sl t2 g lo2 ys).toks:=by
     by_cases ht2:t2 = .sh
     · rw [hshy ht2] at hk;cases hk
     · exact Ym hsy ht2 k hk
    obtain ⟨t0,h0,hok0⟩:=hyf.1 k hk'
    have he:y.ev s=s t0∨True:=.inr trivial
    cases y with
    | t m=>
      have hm:s m = .sl t2 g lo2 ys:=hyf.2.2.symm
      have hne:t∉(s m).toks:=by rw [hm];exact htt
      have hokm:(s m).ok=true:=by rw [hm];rfl
      exact ⟨m,by rw [hkeep1 m hokm hne,hm];exact hk',by rw [hkeep1 m hokm hne];exact hokm⟩
    | k u=>
      exfalso
      have hu:u = .sl t2 g lo2 ys:=hyf.2.2.symm
      cases Y with
      | tmp m=>simp [cO] at hyo
      | const v=>
        simp only [cO,Option.map_eq_some_iff] at hyo
        obtain ⟨u',hu',e'⟩:=hyo
        simp at e'
        have:=(zbm (w:=w) (S:=S) (τ:=τ) hu').2.1
        rw [e',hu] at this
        rw [this] at hk';cases hk'
      | func f=>simp [cO] at hyo;rw [hu] at hyo;cases hyo
      | global f=>simp [cO] at hyo
  · rw [htt] at hk;cases hk
 have hys9:∀ k∈V.tokss ys,∃ t0,k∈(s t0).toks∧(s t0).ok=true:=by
  intro k hk
  refine hyf.1 k ?_
  by_cases ht2:t2 = .sh
  · rw [hshy ht2] at hk;cases hk
  · exact Ym hsy ht2 k hk
 have happ:(Builtin.append_ #[ta,tb] ty #[a.eval X,a.eval Y]).run P w=(if xs.length + ys.length≤cap then
       ((do if let some a:=aX then storeCells (a.add (xs.length * info.size)) news
            pure (.slice aX (xs.length + ys.length) cap):Sem Value)).run P w
     else (do
      let newCap ← choose (.appendCap (xs.length + ys.length) cap e)
      let old ← Builtin.firstCells info.size xs.length (a.eval X)
      let new ← Builtin.firstCells info.size ys.length (a.eval Y)
      let rest:=Builtin.zeroCells z.cells (newCap - (xs.length + ys.length))
      pure (.slice (some (← newRow e (old++new++rest))) (xs.length + ys.length) newCap):Sem Value).run P w):=by
  have hzv:∀ w',(zeroValue e).run P w' = .ok z w':=fun w'=>by simp [zeroValue,typeInfo,hi,hz]
  have hlY:(Builtin.lenOf (a.eval Y)).run P w = .ok ys.length w:=by rw [eY];simp [Builtin.lenOf]
  have hne0:¬ (info.bytes=0):=by omega
  rw [eX]
  simp only [Builtin.append_,List.getElem?_toArray,List.getElem?_cons_zero,List.getElem?_cons_succ,Sem.run_bind,run_underlying hua,run_underlying hub,Result.andThen_ok,sizeOf,typeInfo,run_program,hi,Sem.run_pure,
   Bool.false_eq_true,if_false,hlY,Sem.run_ite,Bool.not_false,if_true]
  split
  · simp only [hnews,Result.andThen_ok]
    cases aX <;> simp
  · rename_i hgt
    have hb2:¬ (Builtin.nextslicecap (xs.length + ys.length) cap * info.bytes > 2 ^ 48):=by
     have h1:=zds (xs.length + ys.length) cap (by omega)
     have h2:Builtin.nextslicecap (xs.length + ys.length) cap * info.bytes≤(2 * (2 ^ 40) + 200) * 64:=Nat.mul_le_mul (by omega) hbytes.2
     omega
    simp only [hne0,or_self,and_false,if_false,hb2,Result.andThen_ok,run_askRoom,hzv]
 rw [happ]
 have hsxy:∀ v∈xs++ys,v.shape=g:=by
  intro v hv
  rcases List.mem_append.1 hv with hv | hv
  · exact hsx v hv
  · exact hsy v hv
 have hsizes:Sh.sizes (V.shapes xs)=xs.length * g.size:=ZK xs hsx
 have hmul:(xs.length + ys.length) * g.size=xs.length * g.size + ys.length * g.size:=Nat.add_mul _ _ _
 by_cases hneed:xs.length + ys.length≤cap
 · rw [if_pos hneed]
   rcases hcase with rfl | ⟨r,p,rfl,hxs0,⟨t0,ht0⟩,hfree⟩
   · have hcap0:cap=0:=by
      rcases hhx with h0 | ⟨_,_,_,_,_,_,_,hp,_⟩
      · exact h0
      · exact hp.elim
     have e1:xs=[]:=List.eq_nil_of_length_eq_zero (by omega)
     have e2:ys=[]:=List.eq_nil_of_length_eq_zero (by omega)
     subst e1;subst e2;subst hcap0
     have e3:news=[]:=List.eq_nil_of_length_eq_zero (by rw [hnl];simp)
     subst e3
     refine ⟨.slice aX 0 0,w,τ,by cases aX <;> simp [storeCells],?_⟩
     have:=hI.val (v:=.sl .nl g 0 []) (c:=.slice aX 0 0) (by simp only [zu,zt];exact ⟨aX,0,rfl,Nat.le_refl _,by simp,by simp,.inl rfl⟩) (by intro k hk;simp [V.toks,V.tokss] at hk) rfl hd
     simpa [WW] using this
   · have hob:=h.own t0 _ ht0
     have hnlne:¬ (Tok.at r p = .nl∧ys=[]):=by simp
     have hV:WW d (.at r p) g xs ys = .sl (.at d []) g 0 (xs++ys):=by simp [WW]
     have hL:(l && !(decide (Tok.at r p = .nl∧ys=[])))=l:=by simp
     rw [hV,hL]
     rcases hhx with h0 | ⟨b,off,arr,tyb,fz,rfl,hw,hp,hfit,hr⟩
     · have e1:xs=[]:=List.eq_nil_of_length_eq_zero (by omega)
       have e2:ys=[]:=List.eq_nil_of_length_eq_zero (by omega)
       subst e1;subst e2;subst h0
       have e3:news=[]:=List.eq_nil_of_length_eq_zero (by rw [hnl];simp)
       subst e3
       refine ⟨.slice aX 0 0,w,fun k=>if k = .at d [] then ⟨(τ (.at r p)).b,0,g⟩ else τ k,by cases aX <;> simp [storeCells],?_⟩
       refine hI.make (v:=.sl (.at d []) g 0 ([]++[])) (k0:=.at d []) (blk:=⟨(τ (.at r p)).b,0,g⟩) hd hg rfl hfree hob.2.2 hob.1 hob.2.1 (fun b _ _=>rfl) (Nat.le_refl _) h.below ?_ ?_ l rfl
       · simp only [zu,zt]
         exact ⟨aX,0,rfl,Nat.le_refl _,by simp,by simp,.inl rfl⟩
       · intro k hk;left;simpa [V.toks,V.tokss] using hk
     · obtain ⟨hp1,hp2,hp3,rfl⟩:=hp
       have hcm:(xs.length + ys.length) * g.size≤cap * g.size:=Nat.mul_le_mul_right _ hneed
       obtain ⟨w',hrun,hwr,e1,e2,e3,e4⟩:=Wv (P:=P) (off:=off + xs.length * g.size) hw (us:=news) (by rw [hnl];omega) (JS ys news hnr)
       rw [hp1] at hob
       refine ⟨.slice (some ⟨b,off,none⟩) (xs.length + ys.length) cap,w',fun k=>if k = .at d [] then ⟨b,off,g⟩ else τ k,by simp [Y0,hsz,hrun],?_⟩
       obtain ⟨arr0,ty0,arr',hwo,hwn,hsp,hfit'⟩:=hwr.old
       rw [hwo] at hw
       simp only [Option.some.injEq,Obj.cells.injEq] at hw
       obtain ⟨rfl,rfl,_⟩:=hw
       have hasz:arr'.size=arr0.size:=by
        have:=YL (cs:=arr0.toList) (o:=off + xs.length * g.size) (us:=news) (by simpa using hfit')
        rw [← hsp] at this;simpa using this
       refine h.make2 hI hgs hls (fun t k hk=>⟨t,hsub t k hk⟩) (v:=.sl (.at d []) g 0 (xs++ys)) (k0:=.at d []) (blk:=⟨b,off,g⟩) hd hg rfl (fun t1 k hk=>by have:=hfree t1 k hk;rw [hp1] at this;exact this) hob.2.2 hob.1 (by rw [e4];exact hob.2.1) (fun b' hb' _=>hwr.other b' hb') (by rw [e4];exact Nat.le_refl _)
        (h.below.trans ⟨e1,e2,e3,by rw [e4];exact Nat.le_refl _,fun k _ hk=>hwr.other k (by rintro rfl;exact hk hob.1),hwr.rows⟩) ?_ ?_ l rfl
       · simp only [zu,zt,List.length_append]
         refine ⟨_,cap,rfl,hneed,hsxy,by simp,.inr ⟨b,off,arr',ty0,(0,0),rfl,hwn,⟨by simp,by simp,by simp,rfl⟩,by rw [hasz];exact hfit,?_⟩⟩
         rw [Zr,hsizes,hmul]
         have hsplit:=Mx arr'.toList off (xs.length * g.size) (ys.length * g.size)
         rw [hsplit.1,hsplit.2,hsp,uc _ _ _ _ _ (.inr (Nat.le_refl _)) (by simpa using hfit')]
         constructor
         · refine xW (w:=w) (fun b' hb'=>⟨hb',hwr.other b' (fun e=>hob.2.2 (e ▸ hb'))⟩) xs _ hr ?_
           intro k hk
           obtain ⟨hne,t1,h1,_⟩:=hxs0 k hk
           have hnd:k≠.at d []:=by rintro rfl;exact h.gone d t1 _ (hgs d hg) h1 rfl
           refine ⟨by rw [if_neg hnd],hwr.other _ ?_⟩
           intro e
           exact hne (h.inj t1 t0 k _ h1 ht0 (by rw [e,hp1]))
         · rw [uQ _ _ _ _ _ (Nat.le_refl _) (by rw [hnl];exact Nat.le_refl _) (by simp;omega),Nat.sub_self,Uj _ _ (by rw [hnl];simp;omega)]
           refine xW (w:=w) (fun b' hb'=>⟨hb',hwr.other b' (fun e=>hob.2.2 (e ▸ hb'))⟩) ys _ hnr ?_
           intro k hk
           obtain ⟨t1,h1,_⟩:=hys1 k hk
           have hne:k≠.at d []:=by rintro rfl;exact hI.gone d t1 _ hg h1 rfl
           refine ⟨by rw [if_neg hne],hwr.other _ ?_⟩
           have:=hfree t1 k h1
           rw [hp1] at this;exact this
       · intro k hk
         simp only [V.toks,List.mem_cons] at hk
         rcases hk with rfl | hk
         · exact .inl rfl
         · split at hk
           · cases hk
           · rw [Yr] at hk
             rcases List.mem_append.1 hk with hk | hk
             · obtain ⟨hne,t1,h1,h2⟩:=hxs0 k hk
               exact .inr ⟨⟨t1,h1,h2⟩,fun e=>hne (h.inj t1 t0 k _ h1 ht0 (by rw [e,hp1]))⟩
             · obtain ⟨t1,h1,h2⟩:=hys1 k hk
               have h3:=hfree t1 k h1
               rw [hp1] at h3
               exact .inr ⟨hys9 k hk,h3⟩
 · rw [if_neg hneed]
   have hxs0:∀ k∈V.tokss xs,∃ t0,k∈(s t0).toks∧(s t0).ok=true:=by
    rcases hcase with rfl | ⟨r,p,rfl,hxs0,_⟩
    · rcases hhx with h0 | ⟨_,_,_,_,_,_,_,hp,_⟩
      · have:xs=[]:=List.eq_nil_of_length_eq_zero (by omega)
        subst this;intro k hk;cases hk
      · exact hp.elim
    · exact fun k hk=>(hxs0 k hk).2
   have hV:WW d t g xs ys = .sl (.at d []) g 0 (xs++ys):=by
    unfold WW
    rw [if_neg]
    rintro ⟨rfl,rfl⟩
    rcases hhx with h0 | ⟨_,_,_,_,_,_,_,hp,_⟩
    · simp at hneed;omega
    · exact hp.elim
   have hL:(l && !(decide (t = .nl∧ys=[])))=l:=by
    have:decide (t = .nl∧ys=[])=false:=by
     rw [decide_eq_false_iff_not]
     rintro ⟨rfl,rfl⟩
     rcases hhx with h0 | ⟨_,_,_,_,_,_,_,hp,_⟩
     · simp at hneed;omega
     · exact hp.elim
    rw [this];simp
   rw [hV,hL]
   obtain ⟨newCap,hcapr,hcapge⟩:∃ newCap,(choose (.appendCap (xs.length + ys.length) cap e)).run P w = .ok newCap { w with drawn:=w.drawn + 1 }∧xs.length + ys.length≤newCap:=by
    refine ⟨_,by simp [Question.forced];rfl,?_⟩
    simp [Question.cut]
   have hI2:Inv w0 S0 n s1 a { w with drawn:=w.drawn + 1 } S τ:=hI.same_heap rfl (UH h.below _)
   have hI9:Inv w0 S0 n s a { w with drawn:=w.drawn + 1 } S τ:=h.same_heap rfl (UH h.below _)
   have hxr2:zu { w with drawn:=w.drawn + 1 } S τ (.sl t g lo xs) (a.eval X):=xP (w:=w) (w':={ w with drawn:=w.drawn + 1 }) (fun b hb=>⟨hb,rfl⟩) _ _ hxr (fun k _=>⟨rfl,rfl⟩)
   have hyr2:zu { w with drawn:=w.drawn + 1 } S τ (.sl t2 g lo2 ys) (a.eval Y):=xP (w:=w) (w':={ w with drawn:=w.drawn + 1 }) (fun b hb=>⟨hb,rfl⟩) _ _ hyr' (fun k _=>⟨rfl,rfl⟩)
   obtain ⟨olds,holds,hor,hol⟩:=K4 (P:=P) hxr2 (e:=info.size) hsz
   obtain ⟨news2,hnews2,hnr2,hnl2⟩:=K4 (P:=P) hyr2 (e:=info.size) hsz
   have harr:(olds.toArray++news2.toArray++Builtin.zeroCells z.cells (newCap - (xs.length + ys.length))).toList=olds++news2++(Builtin.zeroCells z.cells (newCap - (xs.length + ys.length))).toList:=by simp
   have hzl:(Builtin.zeroCells z.cells (newCap - (xs.length + ys.length))).size=(newCap - (xs.length + ys.length)) * g.size:=by simp [Builtin.zeroCells,hzs,hsz]
   have hcm:(xs.length + ys.length) * g.size + (newCap - (xs.length + ys.length)) * g.size=newCap * g.size:=by rw [← Nat.add_mul];congr 1;omega
   refine ⟨_,_,_,?_,hI9.newList2 hI2 hgs hls (fun t k hk=>⟨t,hsub t k hk⟩) hd hg (arr:=olds.toArray++news2.toArray++Builtin.zeroCells z.cells (newCap - (xs.length + ys.length))) e (cap:=newCap) hsxy (by simpa using hcapge) ?_ ?_ ?_ l⟩
   · simp only [Sem.run_bind,hcapr,Result.andThen_ok,holds,hnews2,newRow,run_newObj,Sem.run_pure,List.length_append]
     rfl
   · simp only [Array.size_append,List.size_toArray,hzl,hol,hnl2]
     omega
   · rw [harr,List.length_append,hmul,List.take_append_of_le_length (by simp [hol,hnl2]),List.take_of_length_le (by simp [hol,hnl2]),Zr,hsizes,List.take_left' hol,List.drop_left' hol]
     exact ⟨hor,hnr2⟩
   · intro k hk
     rw [Yr] at hk
     rcases List.mem_append.1 hk with hk | hk
     · exact hxs0 k hk
     · exact hys9 k hk
end
end Go.Zq
namespace Go.Zq
mutual
def Lf:V→List Nat→Tok
 | .sl t _ _ xs,q=>match q with
   | []=>t
   | i :: q=>Wp xs i q
 | .agg vs,q=>match q with
   | []=>.nl
   | i :: q=>Wp vs i q
 | .tup vs,q=>match q with
   | []=>.nl
   | i :: q=>Wp vs i q
 | .lin v,q=>Lf v q
 | _,_=>.nl
def Wp:List V→Nat→List Nat→Tok
 | [],_,_=>.nl
 | v :: _,0,q=>Lf v q
 | _ :: vs,i + 1,q=>Wp vs i q
end
mutual
theorem Qx {w:World} {S:Nat→Prop} {τ:Tok→Blk} (S':Nat→Prop):∀ (v:V) (cs:List Value),zt w S τ v cs→v.mine=true→zt w S' τ v cs
 | .dead,_,_,h | .gone,_,_,h | .fn ..,_,_,h | .ref ..,_,_,h=>by simp [V.mine] at h
 | .lin _,_,h,_=>by simp [zt] at h
 | .tup _,_,h,_=>by simp [zt] at h
 | .int ..,cs,h,_=>by simpa [zt] using h
 | .bool ..,cs,h,_=>by simpa [zt] using h
 | .agg vs,cs,h,hm=>by
   simp only [zt] at h ⊢
   exact W7 S' vs cs h (by simpa [V.mine] using hm)
 | .sl t g lo xs,cs,hh,hm=>by
   simp only [zt] at hh ⊢
   obtain ⟨a,cap,hc,hle,hx,hsh,hh⟩:=hh
   refine ⟨a,cap,hc,hle,hx,hsh,hh.imp id ?_⟩
   rintro ⟨b,off,arr,ty,fz,ha,hw,hp,hfit,hr⟩
   have hmx:zZ w S' τ xs ((arr.toList.drop off).take (xs.length * g.size)):=by
    by_cases hf:g.flat=true
    · refine XY S' xs _ hr ?_
      intro x hx';rw [hx x hx'];exact hf
    · refine W7 S' xs _ hr ?_
      cases t <;> simp_all [V.mine]
   refine ⟨b,off,arr,ty,fz,ha,hw,?_,hfit,hmx⟩
   cases t with
   | sh=>simp [V.mine] at hm
   | bx r=>simp [V.mine] at hm
   | nl=>exact hp
   | «at» r p=>exact hp
theorem W7 {w:World} {S:Nat→Prop} {τ:Tok→Blk} (S':Nat→Prop):∀ (vs:List V) (cs:List Value),zZ w S τ vs cs→V.mines vs=true→zZ w S' τ vs cs
 | [],cs,h,_=>by simpa [zZ] using h
 | v :: vs,cs,h,hm=>by
   simp only [zZ] at h ⊢
   simp only [V.mines,Bool.and_eq_true] at hm
   exact ⟨Qx S' v _ h.1 hm.1,W7 S' vs _ h.2 hm.2⟩
theorem NF {w w':World} {S:Nat→Prop} {τ τ':Tok→Blk} (S':Nat→Prop):∀ (v:V) (cs:List Value),zt w S τ v cs→v.shape.flat=true→zt w' S' τ' v cs
 | .dead,_,_,h | .gone,_,_,h | .fn ..,_,_,h | .ref ..,_,_,h | .tup _,_,_,h | .sl ..,_,_,h=>by simp [V.shape,Sh.flat] at h
 | .lin _,_,h,_=>by simp [zt] at h
 | .int ..,cs,h,_=>by simpa [zt] using h
 | .bool ..,cs,h,_=>by simpa [zt] using h
 | .agg vs,cs,h,hm=>by
   simp only [zt] at h ⊢
   refine XY S' vs cs h ?_
   have hm':Sh.flats (V.shapes vs)=true:=by simpa [V.shape,Sh.flat] using hm
   clear hm h
   induction vs with
   | nil=>intro x hx;cases hx
   | cons v vs ih=>
     simp only [V.shapes,Sh.flats,Bool.and_eq_true] at hm'
     intro x hx
     simp only [List.mem_cons] at hx
     rcases hx with rfl | hx
     · exact hm'.1
     · exact ih hm'.2 x hx
theorem XY {w w':World} {S:Nat→Prop} {τ τ':Tok→Blk} (S':Nat→Prop):∀ (vs:List V) (cs:List Value),zZ w S τ vs cs→(∀ v∈vs,v.shape.flat=true)→zZ w' S' τ' vs cs
 | [],cs,h,_=>by simpa [zZ] using h
 | v :: vs,cs,h,hm=>by
   simp only [zZ] at h ⊢
   exact ⟨NF S' v _ h.1 (hm v (by simp)),XY S' vs _ h.2 fun x hx=>hm x (by simp [hx])⟩
end
mutual
theorem Ks {w:World} {S:Nat→Prop} {τ:Tok→Blk} (S':Nat→Prop):∀ (v:V) (c:Value),zu w S τ v c→v.mine=true→zu w S' τ v c
 | .dead,_,_,h | .gone,_,_,h | .fn ..,_,_,h | .ref ..,_,_,h=>by simp [V.mine] at h
 | .int ..,c,h,_=>by simpa [zu] using h
 | .bool ..,c,h,_=>by simpa [zu] using h
 | .lin v,c,h,hm=>by
   simp only [zu] at h ⊢
   exact Ks S' v c h (by simpa [V.mine] using hm)
 | .agg vs,c,h,hm=>by
   simp only [zu] at h ⊢
   obtain ⟨arr,e,h⟩:=h
   exact ⟨arr,e,W7 S' vs _ h (by simpa [V.mine] using hm)⟩
 | .tup vs,c,h,hm=>by
   simp only [zu] at h ⊢
   obtain ⟨arr,e,h⟩:=h
   exact ⟨arr,e,M9 S' vs _ h (by simpa [V.mine] using hm)⟩
 | .sl ..,_,h,hm=>yP rfl (Qx S' _ _ (by simpa only [zu] using h) hm)
theorem M9 {w:World} {S:Nat→Prop} {τ:Tok→Blk} (S':Nat→Prop):∀ (vs:List V) (cs:List Value),z6 w S τ vs cs→V.mines vs=true→z6 w S' τ vs cs
 | [],cs,h,_=>by simpa [z6] using h
 | v :: vs,cs,h,hm=>by
   simp only [z6] at h ⊢
   obtain ⟨c,cs',e,h1,h2⟩:=h
   simp only [V.mines,Bool.and_eq_true] at hm
   exact ⟨c,cs',e,Ks S' v c h1 hm.1,M9 S' vs cs' h2 hm.2⟩
end
mutual
theorem K5 (d:Nat):∀ (v:V) (p:List Nat) (m:Nat),(V.tag d p m (V.ret m v)).shape=v.shape
 | .dead,p,m | .gone,p,m | .int ..,p,m | .bool _,p,m=>by simp [V.ret,V.tag,V.shape,V.erase]
 | .lin v,p,m=>by simp only [V.ret,V.shape];exact K5 d v p m
 | .tup vs,p,m=>by simp [V.ret,V.tag,V.shape]
 | .fn ..,p,m=>by simp [V.ret,V.tag,V.shape,V.erase]
 | .ref ..,p,m=>by simp [V.ret,V.tag,V.shape,V.erase]
 | .sl t g lo xs,p,m=>by
   cases m <;> cases t <;> simp [V.ret,V.tag,V.shape]
 | .agg vs,p,m=>by
   simp only [V.ret,V.tag,V.shape]
   rw [UT d vs p m 0]
theorem UT (d:Nat):∀ (vs:List V) (p:List Nat) (m k:Nat),V.shapes (V.tags d p m k (V.rets m vs))=V.shapes vs
 | [],p,m,k=>rfl
 | v :: vs,p,m,k=>by simp [V.rets,V.tags,V.shapes,K5 d v,UT d vs]
end
def My (d:Nat) (T:List Nat→Tok) (τ τ':Tok→Blk):Prop:=∀ q,τ' (.at d q)=τ (T q)
theorem zcN (m:Nat):∀ vs:List V,(V.rets m vs).length=vs.length
 | []=>rfl
 | v :: vs=>by simp [V.rets,zcN m vs]
theorem zcr (d:Nat) (p:List Nat) (m:Nat):∀ (k:Nat) (vs:List V),(V.tags d p m k vs).length=vs.length
 | k,[]=>rfl
 | k,v :: vs=>by simp [V.tags,zcr d p m (k + 1) vs]
theorem zjc (d:Nat) (p:List Nat) (m k:Nat) {g:Sh} {xs:List V} (hx:∀ x∈xs,x.shape=g):∀ x∈V.tags d p m k (V.rets m xs),x.shape=g:=
 YO (UT d xs p m k) hx
mutual
theorem zcU {w:World} {S S':Nat→Prop} {τ τ':Tok→Blk} {d:Nat} {T:List Nat→Tok} (hT:My d T τ τ') (hS:∀ b,S b→S' b) :
    ∀ (v:V) (p:List Nat) (m:Nat) (cs:List Value) (l:List (List Nat×Tok)),zt w S τ v cs→V.own p m v=some l→(∀ q,T (p++q)=Lf v q)→(∀ k∈V.low m v,S' (τ k).b)→zt w S' τ' (V.tag d p m (V.ret m v)) cs
 | .dead,p,m,cs,l,_,h,_,_=>by simp [V.own] at h
 | .gone,p,m,cs,l,_,h,_,_=>by simp [V.own] at h
 | .fn ..,p,m,cs,l,_,h,_,_=>by simp [V.own] at h
 | .ref ..,p,m,cs,l,_,h,_,_=>by simp [V.own] at h
 | .lin _,p,m,cs,l,h,_,_,_=>by simp [zt] at h
 | .tup _,p,m,cs,l,h,_,_,_=>by simp [zt] at h
 | .int ..,p,m,cs,l,h,_,_,_=>by simpa [V.ret,V.tag,V.erase,zt] using h
 | .bool ..,p,m,cs,l,h,_,_,_=>by simpa [V.ret,V.tag,V.erase,zt] using h
 | .agg vs,p,m,cs,l,h,ho,ht,hl=>by
   simp only [zt,V.ret,V.tag] at h ⊢
   exact Jb hT hS vs p m 0 cs l h (by simpa [V.own] using ho) (fun j q=>by rw [Nat.zero_add];exact ht (j :: q)) (by simpa [V.low] using hl)
 | .sl t g lo xs,p,0,cs,l,hh,ho,ht,hl=>by
   have:=vL (τ':=τ') hS (.sl t g lo xs) cs hh (by simpa [V.low] using hl)
   simpa [V.ret,V.tag,V.erase] using this
 | .sl t g lo xs,p,m + 1,cs,l,hh,ho,ht,hl=>by
   simp only [zt] at hh
   obtain ⟨a,cap,hc,hle,hx,hsh,hh⟩:=hh
   cases t with
   | sh=>simp [V.own] at ho
   | bx r=>simp [V.own] at ho
   | nl=>
     have h0:cap=0:=by
      rcases hh with h0 | ⟨_,_,_,_,_,_,_,hp,_⟩
      · exact h0
      · exact hp.elim
     have:xs=[]:=List.eq_nil_of_length_eq_zero (by omega)
     subst this
     simp only [V.ret,V.tag,zt]
     exact ⟨a,cap,hc,hle,by simp,by simp,.inl h0⟩
   | «at» r q=>
     have hlen:(if g.flat then (if g.flat then xs else V.rets m xs) else V.tags d p m 0 (if g.flat then xs else V.rets m xs)).length=xs.length:=by
      split
      · rfl
      · rw [zcr,zcN]
     simp only [V.ret,V.tag,zt]
     refine ⟨a,cap,by rw [hlen];exact hc,by rw [hlen];exact hle,?_,by simp,hh.imp id ?_⟩
     · split
       · exact hx
       · exact zjc d p m 0 hx
     · rintro ⟨b,off,arr,ty,fz,ha,hw,hp,hfit,hr⟩
       have e0:τ' (.at d p)=τ (.at r q):=by rw [hT p];have:=ht [];rw [List.append_nil] at this;rw [this];rfl
       refine ⟨b,off,arr,ty,fz,ha,hw,?_,hfit,?_⟩
       · obtain ⟨h1,h2,h3,h4⟩:=hp
         have hlo:lo=0:=by
          simp only [V.own] at ho
          split at ho
          · assumption
          · cases ho
         subst hlo
         exact ⟨by rw [e0];exact h1,by rw [e0];exact h2,by rw [e0];exact h3,h4⟩
       · rw [hlen]
         split
         · rename_i hf
           exact XY S' xs _ hr fun x hx'=>by rw [hx x hx'];exact hf
         · rename_i hf
           have ho':(V.owns p m 0 xs).isSome:=by
            simp only [V.own,hf,Bool.false_eq_true,if_false] at ho
            split at ho
            · cases hos:V.owns p m 0 xs with
              | none=>simp [hos] at ho
              | some l'=>rfl
            · cases ho
           obtain ⟨l',hl'⟩:=Option.isSome_iff_exists.1 ho'
           exact Jb hT hS xs p m 0 _ l' hr hl' (fun j q=>by rw [Nat.zero_add];exact ht (j :: q)) (by simpa [V.low,hf] using hl)
theorem Jb {w:World} {S S':Nat→Prop} {τ τ':Tok→Blk} {d:Nat} {T:List Nat→Tok} (hT:My d T τ τ') (hS:∀ b,S b→S' b) :
    ∀ (vs:List V) (p:List Nat) (m k:Nat) (cs:List Value) (l:List (List Nat×Tok)),zZ w S τ vs cs→V.owns p m k vs=some l→(∀ j q,T (p++(k + j) :: q)=Wp vs j q)→(∀ k∈V.lows m vs,S' (τ k).b) →
     zZ w S' τ' (V.tags d p m k (V.rets m vs)) cs
 | [],p,m,k,cs,l,h,_,_,_=>by simpa [zZ,V.rets,V.tags] using h
 | v :: vs,p,m,k,cs,l,h,ho,ht,hl=>by
   simp only [zZ] at h
   simp only [V.owns] at ho
   split at ho
   · rename_i la lb h1 h2
     simp only [V.rets,V.tags,zZ,K5]
     simp only [V.lows,List.mem_append] at hl
     refine ⟨zcU hT hS v (p++[k]) m _ la h.1 h1 (fun q=>?_) (fun k hk=>hl k (.inl hk)),Jb hT hS vs p m (k + 1) _ lb h.2 h2 (fun j q=>?_) (fun k hk=>hl k (.inr hk))⟩
     · have:=ht 0 q
       simpa [Wp] using this
     · have:=ht (j + 1) q
       rw [show k + 1 + j=k + (j + 1) by omega,this]
       rfl
   · cases ho
end
mutual
theorem Kc {w:World} {S S':Nat→Prop} {τ τ':Tok→Blk} {d:Nat} {T:List Nat→Tok} (hT:My d T τ τ') (hS:∀ b,S b→S' b) :
    ∀ (v:V) (p:List Nat) (m:Nat) (c:Value) (l:List (List Nat×Tok)),zu w S τ v c→V.own p m v=some l→(∀ q,T (p++q)=Lf v q)→(∀ k∈V.low m v,S' (τ k).b)→zu w S' τ' (V.tag d p m (V.ret m v)) c
 | .dead,p,m,cs,l,_,h,_,_=>by simp [V.own] at h
 | .gone,p,m,cs,l,_,h,_,_=>by simp [V.own] at h
 | .fn ..,p,m,cs,l,_,h,_,_=>by simp [V.own] at h
 | .ref ..,p,m,cs,l,_,h,_,_=>by simp [V.own] at h
 | .int ..,p,m,cs,l,h,_,_,_=>by simpa [V.ret,V.tag,V.erase,zu] using h
 | .bool ..,p,m,cs,l,h,_,_,_=>by simpa [V.ret,V.tag,V.erase,zu] using h
 | .lin v,p,m,c,l,h,ho,ht,hl=>by
   simp only [zu] at h
   simp only [V.ret]
   exact Kc hT hS v p m c l h (by simpa [V.own] using ho) (fun q=>by rw [ht q];rfl) (by simpa [V.low] using hl)
 | .agg vs,p,m,c,l,h,ho,ht,hl=>by
   simp only [zu,V.ret,V.tag] at h ⊢
   obtain ⟨arr,e,h⟩:=h
   exact ⟨arr,e,Jb hT hS vs p m 0 _ l h (by simpa [V.own] using ho) (fun j q=>by rw [Nat.zero_add];exact ht (j :: q)) (by simpa [V.low] using hl)⟩
 | .tup vs,p,m,c,l,h,ho,ht,hl=>by
   simp only [zu,V.ret,V.tag] at h ⊢
   obtain ⟨arr,e,h⟩:=h
   exact ⟨arr,e,Ql hT hS vs p m 0 _ l h (by simpa [V.own] using ho) (fun j q=>by rw [Nat.zero_add];exact ht (j :: q)) (by simpa [V.low] using hl)⟩
 | .sl t g lo xs,p,m,c,l,h,ho,ht,hl=>by
   have:=zcU hT hS (.sl t g lo xs) p m [c] l (by simpa only [zu] using h) ho ht hl
   refine yP ?_ this
   cases m <;> cases t <;> rfl
theorem Ql {w:World} {S S':Nat→Prop} {τ τ':Tok→Blk} {d:Nat} {T:List Nat→Tok} (hT:My d T τ τ') (hS:∀ b,S b→S' b) :
    ∀ (vs:List V) (p:List Nat) (m k:Nat) (cs:List Value) (l:List (List Nat×Tok)),z6 w S τ vs cs→V.owns p m k vs=some l→(∀ j q,T (p++(k + j) :: q)=Wp vs j q)→(∀ k∈V.lows m vs,S' (τ k).b) →
     z6 w S' τ' (V.tags d p m k (V.rets m vs)) cs
 | [],p,m,k,cs,l,h,_,_,_=>by simpa [z6,V.rets,V.tags] using h
 | v :: vs,p,m,k,cs,l,h,ho,ht,hl=>by
   simp only [z6] at h
   obtain ⟨c,cs',e,hc,hcs⟩:=h
   simp only [V.owns] at ho
   split at ho
   · rename_i la lb h1 h2
     simp only [V.rets,V.tags,z6]
     simp only [V.lows,List.mem_append] at hl
     refine ⟨c,cs',e,Kc hT hS v (p++[k]) m _ la hc h1 (fun q=>?_) (fun k hk=>hl k (.inl hk)),Ql hT hS vs p m (k + 1) _ lb hcs h2 (fun j q=>?_) (fun k hk=>hl k (.inr hk))⟩
     · have:=ht 0 q
       simpa [Wp] using this
     · have:=ht (j + 1) q
       rw [show k + 1 + j=k + (j + 1) by omega,this]
       rfl
   · cases ho
end
mutual
theorem L3 (d:Nat):∀ (v:V) (p:List Nat) (m:Nat) (l:List (List Nat×Tok)),V.own p m v=some l→(V.tag d p m (V.ret m v)).toks=l.map (fun x=>Tok.at d x.1)
 | .dead,p,m,l,h=>by simp [V.own] at h
 | .gone,p,m,l,h=>by simp [V.own] at h
 | .fn ..,p,m,l,h=>by simp [V.own] at h
 | .ref ..,p,m,l,h=>by simp [V.own] at h
 | .int ..,p,m,l,h=>by simp [V.own] at h;subst h;simp [V.ret,V.tag,V.erase,V.toks]
 | .bool ..,p,m,l,h=>by simp [V.own] at h;subst h;simp [V.ret,V.tag,V.erase,V.toks]
 | .lin v,p,m,l,h=>by simp only [V.ret];exact L3 d v p m l (by simpa [V.own] using h)
 | .agg vs,p,m,l,h=>by simpa [V.ret,V.tag,V.toks] using U9 d vs p m 0 l (by simpa [V.own] using h)
 | .tup vs,p,m,l,h=>by simpa [V.ret,V.tag,V.toks] using U9 d vs p m 0 l (by simpa [V.own] using h)
 | .sl t g lo xs,p,0,l,h=>by simp [V.own] at h;subst h;simp [V.ret,V.tag,V.toks]
 | .sl t g lo xs,p,m + 1,l,h=>by
   cases t with
   | sh=>simp [V.own] at h
   | bx r=>simp [V.own] at h
   | nl=>simp [V.own] at h;subst h;simp [V.ret,V.tag,V.toks,V.tokss]
   | «at» r q=>
     simp only [V.own] at h
     split at h
     · by_cases hf:g.flat=true
       · simp only [hf,if_true,Option.some.injEq] at h
         subst h
         simp [V.ret,V.tag,V.toks,hf]
       · simp only [hf,Bool.false_eq_true,if_false,Option.map_eq_some_iff] at h
         obtain ⟨l',h',rfl⟩:=h
         have:=U9 d xs p m 0 l' h'
         simp [V.ret,V.tag,V.toks,hf,this]
     · cases h
theorem U9 (d:Nat):∀ (vs:List V) (p:List Nat) (m k:Nat) (l:List (List Nat×Tok)),V.owns p m k vs=some l→V.tokss (V.tags d p m k (V.rets m vs))=l.map (fun x=>Tok.at d x.1)
 | [],p,m,k,l,h=>by simp [V.owns] at h;subst h;simp [V.rets,V.tags,V.tokss]
 | v :: vs,p,m,k,l,h=>by
   simp only [V.owns] at h
   split at h
   · rename_i la lb h1 h2
     simp only [Option.some.injEq] at h
     subst h
     simp [V.rets,V.tags,V.tokss,L3 d v (p++[k]) m la h1,U9 d vs p m (k + 1) lb h2]
   · cases h
end
mutual
theorem Mw {T:List Nat→Tok}:∀ (v:V) (p:List Nat) (m:Nat) (l:List (List Nat×Tok)),V.own p m v=some l→(∀ q,T (p++q)=Lf v q)→∀ x∈l,T x.1=x.2∧x.2∈v.toks
 | .dead,p,m,l,h,_=>by simp [V.own] at h
 | .gone,p,m,l,h,_=>by simp [V.own] at h
 | .fn ..,p,m,l,h,_=>by simp [V.own] at h
 | .ref ..,p,m,l,h,_=>by simp [V.own] at h
 | .int ..,p,m,l,h,_=>by simp [V.own] at h;subst h;simp
 | .bool ..,p,m,l,h,_=>by simp [V.own] at h;subst h;simp
 | .lin v,p,m,l,h,ht=>by
   have:=Mw (T:=T) v p m l (by simpa [V.own] using h) (fun q=>by rw [ht q];rfl)
   simpa [V.toks] using this
 | .agg vs,p,m,l,h,ht=>by
   have:=Jq (T:=T) vs p m 0 l (by simpa [V.own] using h) (fun j q=>by rw [Nat.zero_add];exact ht (j :: q))
   simpa [V.toks] using this
 | .tup vs,p,m,l,h,ht=>by
   have:=Jq (T:=T) vs p m 0 l (by simpa [V.own] using h) (fun j q=>by rw [Nat.zero_add];exact ht (j :: q))
   simpa [V.toks] using this
 | .sl t g lo xs,p,0,l,h,_=>by simp [V.own] at h;subst h;simp
 | .sl t g lo xs,p,m + 1,l,h,ht=>by
   cases t with
   | sh=>simp [V.own] at h
   | bx r=>simp [V.own] at h
   | nl=>simp [V.own] at h;subst h;simp
   | «at» r q=>
     have h0:T p = .at r q:=by have:=ht [];rw [List.append_nil] at this;rw [this];rfl
     simp only [V.own] at h
     split at h
     · by_cases hf:g.flat=true
       · simp only [hf,if_true,Option.some.injEq] at h
         subst h
         simp [V.toks,h0]
       · simp only [hf,Bool.false_eq_true,if_false,Option.map_eq_some_iff] at h
         obtain ⟨l',h',rfl⟩:=h
         have:=Jq (T:=T) xs p m 0 l' h' (fun j q=>by rw [Nat.zero_add];exact ht (j :: q))
         intro x hx
         simp only [List.mem_cons] at hx
         rcases hx with rfl | hx
         · exact ⟨h0,by simp [V.toks]⟩
         · exact ⟨(this x hx).1,by simp [V.toks,hf,(this x hx).2]⟩
     · cases h
theorem Jq {T:List Nat→Tok}:∀ (vs:List V) (p:List Nat) (m k:Nat) (l:List (List Nat×Tok)),V.owns p m k vs=some l→(∀ j q,T (p++(k + j) :: q)=Wp vs j q)→∀ x∈l,T x.1=x.2∧x.2∈V.tokss vs
 | [],p,m,k,l,h,_=>by simp [V.owns] at h;subst h;simp
 | v :: vs,p,m,k,l,h,ht=>by
   simp only [V.owns] at h
   split at h
   · rename_i la lb h1 h2
     simp only [Option.some.injEq] at h
     subst h
     have ha:=Mw (T:=T) v (p++[k]) m la h1 (fun q=>by have:=ht 0 q;simpa [Wp] using this)
     have hb:=Jq (T:=T) vs p m (k + 1) lb h2 (fun j q=>by
      have:=ht (j + 1) q
      rw [show k + 1 + j=k + (j + 1) by omega,this];rfl)
     intro x hx
     rcases List.mem_append.1 hx with hx | hx
     · exact ⟨(ha x hx).1,by simp [V.tokss,(ha x hx).2]⟩
     · exact ⟨(hb x hx).1,by simp [V.tokss,(hb x hx).2]⟩
   · cases h
end
end Go.Zq
namespace Go.Zq
def O.rds:O→List Nat
 | .t n=>[n]
 | .k _=>[]
def A.rds:A→List Nat
 | .mov x | .load _ x | .nilc x | .un _ x | .conv _ x | .fld x _ _ | .field x _ _ _ | .ext x _ | .extS x _ | .sliceA x _ _ | .len x=>x.rds
 | .pick c x y=>c.rds++x.rds++y.rds
 | .bin _ x y | .beq _ x y | .idx x y _ | .idxA x y _ _ | .index x y _ _=>x.rds++y.rds
 | .fn _ fs cs=>fs.flatMap O.rds++cs.flatMap O.rds
 | .slice x lo hi _=>x.rds++(lo.map O.rds).getD []++(hi.map O.rds).getD []
 | .mx xs | .mn xs=>xs.flatMap O.rds
 | .bld _ ps=>ps.flatMap fun p=>p.2.2.rds
inductive X where
 | v (a:A)
 | alloc (z:V)
 | box (x:O)
 | mk (n:O) (z z0:V)
 | lit (z:V) (len:Nat) (ps:List (Nat×Nat×O))
 | app (h:Sh) (x y:O)
 | appS (h:Sh) (x y:O)
 | store (h:Sh) (x y:O)
 | call (f:O) (args:List O)
 | mark (f:O) (args:List O)
 | callO (f:O) (args:List O)
 | callG (f:O) (i:Nat) (args:List O)
 | copy (x y:O)
 | callT (f:O) (args:List O) (bs es:List Nat)
 | storeK (h:Sh) (x y:O)
 | litS (z:V) (len:Nat) (ps:List (Nat×Nat×O))
 | vN (a:A) (bs:List Nat)
 deriving Repr,Inhabited
structure I where
 d:Option Nat
 g:Option (Nat×Bool)
 l:Bool
 x:X
 deriving Repr,Inhabited
def yG:List O→(Nat→V)→Option (List V×(Nat→V))
 | [],s=>some ([],s)
 | x :: xs,s=>match x.ev s with
   | .gone=>none
   | .lin v=>match x with
     | .t r=>(yG xs (upd s r .dead)).map fun p=>(v.erase :: p.1,p.2)
     | _=>none
   | v=>(yG xs s).map fun p=>(v.erase :: p.1,p.2)
def yw (s:Nat→V):List O→List Tok
 | []=>[]
 | x :: xs=>(match x.ev s with
   | .lin v=>(match x with
     | .t r=>v.toks.filter fun k=>k.root? != some r
     | _=>[])
   | v=>v.toks)++yw s xs
def place (s:Nat→V) (d:Option Nat) (l:Bool) (v:V):Option (Nat→V):=
 if v.toks.isEmpty then (if v.ok then some (put s d v) else none) else
 match d with
 | some d=>(match s d with
   | .gone=>if v.ok then some (upd s d (if l then .lin v else v)) else none
   | _=>none)
 | none=>none
def ZA (s:Nat→V) (x:O):Option ((Nat→V)×V):=
 match x with
 | .t r=>match s r with
   | .lin (.sl (.at r' p) h lo xs)=>if r'=r && (V.tokss xs).isEmpty then some (upd s r .dead,.sl (.at r' p) h lo xs) else none
   | .sl .nl h lo xs=>some (s,.sl .nl h lo xs)
   | _=>none
 | .k (.sl .nl h lo xs)=>some (s,.sl .nl h lo xs)
 | _=>none
theorem QN {s:Nat→V} {x:O} {r} (h:ZA s x=some r):spent s x=some r:=by
 unfold ZA at h
 unfold spent
 split at h
 · split at h
   · rename_i hs;simp only [hs];exact h
   · rename_i hs;simp only [hs];exact h
   · cases h
 · exact h
 · cases h
mutual
def V.like:V→V→Bool
 | .int k n,.int k' n'=>decide (k=k') && decide (n=n')
 | .bool b,.bool b'=>b == b'
 | .sl t h lo xs,.sl t' h' lo' ys=>decide (t=t') && (h'.beq h && (Nat.beq lo 0 && (Nat.beq lo' 0 && Nat.beq ys.length xs.length)))
 | .agg vs,.agg us=>V.likes vs us
 | _,_=>false
def V.likes:List V→List V→Bool
 | [],[]=>true
 | v :: vs,u :: us=>V.like v u && V.likes vs us
 | _,_=>false
end
def zpC (l:List (List Nat×Tok)):Tok→Option Tok
 | .at r p=>if r=zJ then (l.find? fun y=>y.1 == p).map (·.2) else none
 | .nl=>some .nl
 | _=>none
def zwb (v u:V):V:=
 match V.own [] 9 v with
 | some l=>if (V.tag zJ [] 9 (V.ret 9 v)).like u && u.mine && u.toks.all Tok.pinned then V.map (zpC l) u else .dead
 | none=>.dead
def Xe (ks:List Tok) (k:Tok):Option Tok:=if ks.contains k then none else some k
mutual
def V.sub (t:Tok):V→Option (Sh×List V)
 | .sl t' h lo xs=>if t'=t then (if lo=0 then some (h,xs) else none) else match t' with
   | .at _ _=>if h.flat then none else V.subs t xs
   | _=>none
 | .agg vs=>V.subs t vs
 | .tup vs=>V.subs t vs
 | _=>none
def V.subs (t:Tok):List V→Option (Sh×List V)
 | []=>none
 | v :: vs=>match V.sub t v with
   | some r=>some r
   | none=>V.subs t vs
end
def Mq (nv:V) (t:Tok) (h:Sh) (lo:Nat) (xs:List V):V:=
 match V.sub t nv with
 | some (h',ys)=>if h'.beq h && (Nat.beq lo 0 && Nat.beq ys.length xs.length) then .sl t h 0 ys else .dead
 | none=>.dead
mutual
def V.rem (ks:List Tok) (nv:V):V→V
 | .dead=>.dead
 | .gone=>.gone
 | .int k n=>.int k n
 | .bool b=>.bool b
 | .sl t h lo xs=>match t with
   | .sh=>.sl .sh h lo xs
   | t=>if ks.contains t then Mq nv t h lo xs else .sl t h lo (if h.flat then xs else V.rems ks nv xs)
 | .ref t i q c=>match t with
   | .sh=>.ref .sh i q c
   | t=>if ks.contains t then .dead else .ref t i q (V.rem ks nv c)
 | .agg vs=>.agg (V.rems ks nv vs)
 | .tup vs=>.tup (V.rems ks nv vs)
 | .fn g fs env=>.fn g (V.rems ks nv fs) (V.rems ks nv env)
 | .lin v=>.lin (V.rem ks nv v)
def V.rems (ks:List Tok) (nv:V):List V→List V
 | []=>[]
 | v :: vs=>V.rem ks nv v :: V.rems ks nv vs
end
def ZJ:Nat:=1000000000
def unk (k:Nat):Nat:=if Nat.ble ZJ k then k - ZJ else k
def key (l:Bool) (g:Nat):Nat:=bif l then g + ZJ else g
theorem LL {l:Bool} {g:Nat} (h:Nat.ble ZJ g=false):unk (key l g)=g:=by
 cases l with
 | false=>simp [unk,key,h]
 | true=>
   have:Nat.ble ZJ (g + ZJ)=true:=Nat.ble_eq_true_of_le (by omega)
   simp [unk,key,this]
def V.num:V→Bool
 | .int ..=>true
 | _=>false
abbrev Den:=Nat→List V→Option V
abbrev Sig:=Nat→Option (Nat×Bool)
def Ur (D:Den) (σ:Sig) (s:Nat→V) (d:Option Nat) (l o:Bool) (f:O) (args:List O):Option (Nat→V):=
 match f.rd s with
  | some (.fn g fs env)=>match yG args s with
    | some (vs,s1)=>match D (key o g) (V.erases fs++vs++V.erases env),σ (key o g) with
      | some r,some (m,al)=>
        if Nat.ble ZJ g then none else
        if al && !((yw s args).isEmpty && (V.fn g fs env).toks.isEmpty) then none else
        if r.toks.isEmpty && env.all V.one && !(Nat.ble zJ m) then place s1 d l (V.tag (d.getD 0) [] m r) else none
      | _,_=>none
    | none=>none
  | _=>none
def zl2:Nat:=zJ + 1
def Zz:Nat:=zJ + 2
def zb4 (j:Nat):Tok→Tok
 | .at _ _=>.at (zJ + j) []
 | .bx _=>.bx (zJ + j)
 | k=>k
def uJ (ks:List Tok) (k:Tok):Option Tok:=if k = .nl then some .nl else (ks.findIdx? (fun k'=>k' == k)).map fun j=>zb4 j k
def XC (ks:List Tok) (k:Tok):Option Tok:=if k = .nl then some .nl else ks.find? fun k'=>uJ ks k' == some k
def Zy (s:Nat→V):List Nat→V→V
 | b :: bs,.ref (.bx r) i q c=>match s b with
   | .ref (.bx r') i' q' c'=>if r'=r∧i'=i∧q'=q then .ref (.bx r') i' q' c' else Zy s bs (.ref (.bx r) i q c)
   | _=>Zy s bs (.ref (.bx r) i q c)
 | _,v=>v
def yo (s:Nat→V) (bs:List Nat):List Tok:=bs.flatMap fun b=>(s b).toks
def YW (s:Nat→V) (ks:List Tok):List Nat→List V→Option (List (Nat×Nat×List Nat×V))
 | [],[]=>some []
 | b :: bs,u :: us=>match s b,u with
   | .ref (.bx r) i q _,.ref t i' q' c'=>if XC ks t=some (.bx r)∧i'=i∧q'=q then (YW s ks bs us).map fun l=>(r,i,q,V.map (XC ks) (.ref t i' q' c')) :: l else none
   | _,_=>none
 | _,_=>none
def upG (ks:List Tok) (l:List (Nat×Nat×List Nat×V)) (v:V):V:=
 match v with
 | .ref (.bx r) i q c=>match l.find? fun e=>e.1 == r && (e.2.1 == i && e.2.2.1 == q) with
   | some e=>e.2.2.2
   | none=>V.map (Xe ks) (.ref (.bx r) i q c)
 | v=>V.map (Xe ks) v
def UR (D:Den) (σ:Sig) (s:Nat→V) (f:O) (args:List O) (bs es:List Nat):Option (List Tok×List (Nat×Nat×List Nat×V)×V):=
 match f.rd s,Zd s args with
 | some (.fn g [] env),some vs=>
   if !((V.tokss (vs++env.map (Zy s bs))).all (yo s (bs++es)).contains && env.all V.one && es.all fun e=>(s e).ok) then none else
   match D (key false g) (V.maps (uJ (yo s (bs++es))) (vs++env.map (Zy s bs))),σ (key false g) with
   | some (.tup [r,.tup us]),some (m,_)=>
     if Nat.beq m Zz && !(Nat.ble ZJ g) && (r.toks.isEmpty && r.ok) && us.all (fun u=>u.toks.all Tok.pinned) then
      (YW s (yo s (bs++es)) bs us).map fun l=>(yo s (bs++es),l,r)
     else none
   | _,_=>none
 | _,_=>none
def NZ (D:Den) (σ:Sig) (s:Nat→V) (d:Option Nat) (f:O) (args:List O) (bs es:List Nat):Option (Nat→V):=
 (UR D σ s f args bs es).map fun p=>put (fun t=>upG p.1 p.2.1 (s t)) d p.2.2
def Uu (t:Tok):Nat→List V→(Nat→V)→Nat→V
 | _,[],s=>s
 | i,u :: us,s=>Uu t (i + 1) us (X5 t i [] u s)
def yk (D:Den) (σ:Sig) (s:Nat→V) (d:Option Nat) (l:Bool):X→Option (Nat→V)
 | .v a=>(z8 s a).map (put s d)
 | .alloc z=>match d with
   | some d=>(match s d with
     | .gone=>some (upd s d (.ref (.bx d) 0 [] z))
     | _=>none)
   | none=>none
 | .box x=>match d,x.rd s with
   | some d,some v=>(match s d with
     | .gone=>if v.mem then some (upd s d (.ref (.bx d) 0 [] v)) else none
     | _=>none)
   | _,_=>none
 | .mk n z _=>match d,n.rd s with
   | some d,some (.int _ m)=>(match s d with
     | .gone=>if 0≤m∧m≤2 ^ 40 then some (upd s d (if l then .lin (.sl (.at d []) z.shape 0 (List.replicate m.toNat z)) else .sl (.at d []) z.shape 0 (List.replicate m.toNat z))) else none
     | _=>none)
   | _,_=>none
 | .lit z len ps=>match d,xB s ps (List.replicate len z) with
   | some d,some xs=>(match s d with
     | .gone=>some (upd s d (if l then .lin (.sl (.at d []) z.shape 0 xs) else .sl (.at d []) z.shape 0 xs))
     | _=>none)
   | _,_=>none
 | .app h x y=>match d,spent s x,y.rd s with
   | some d,some (s1,.sl t g _ xs),some (.sl t2 g2 lo2 ys)=>
     (match s1 d with
      | .gone=>if g.beq h && g2.beq h && (!(V.sl t2 g2 lo2 ys).toks.contains t || (V.tokss ys).isEmpty) && decide (xs.length + ys.length≤2 ^ 40) then
         some (upd s1 d (if l && !(t = .nl∧ys=[]:Bool) then .lin (WW d t g xs ys) else WW d t g xs ys)) else none
      | _=>none)
   | _,_,_=>none
 | .appS h x y=>match d,ZA s x,y.rd s with
   | some d,some (s1,.sl t g _ xs),some (.sl t2 g2 lo2 ys)=>
     (match s1 d with
      | .gone=>if g.beq h && g2.beq h && (!(V.sl t2 g2 lo2 ys).toks.contains t || (V.tokss ys).isEmpty) && decide (xs.length + ys.length≤2 ^ 40) then
         some (upd s1 d (if l && !(t = .nl∧ys=[]:Bool) then .lin (WW d t g xs ys) else WW d t g xs ys)) else none
      | _=>none)
   | _,_,_=>none
 | .store h x y=>match x.rd s,y.rd s with
   | some (.ref t i q c),some v=>if t≠.sh∧t≠.nl∧v.mem=true∧v.shape.beq h=true∧c.shape.beq h=true∧v.toks.contains t=false then some (X5 t i q v s) else none
   | _,_=>none
 | .call f args=>Ur D σ s d l false f args
 | .callO f args=>Ur D σ s d l true f args
 | .callG _ _ _=>none
 | .callT f args bs es=>NZ D σ s d f args bs es
 | .vN a bs=>match z8 s a with
   | some v=>if (a.rds.all fun t=>(s t).toks.all fun k=>!(yo s bs).contains k) && v.toks.all fun k=>!(yo s bs).contains k then some (put s d v) else none
   | none=>none
 | .litS z len ps=>match d,xB s ps (List.replicate len z) with
   | some d,some xs=>(match s d with
     | .gone=>some fun t=>V.frz [.at d []] (upd s d (.sl (.at d []) z.shape 0 xs) t)
     | _=>none)
   | _,_=>none
 | .storeK _ _ _=>none
 | .mark _ _=>none
 | .copy x y=>match x.rd s,y.rd s with
   | some (.sl (.at r p) h lo xs),some (.sl _ h2 _ ys)=>if h.beq .s && h2.beq .s then some (put (Uu (.at r p) lo (ys.take xs.length) s) d (.int .i64 (min ys.length xs.length:Nat))) else none
   | _,_=>none
def step (D:Den) (σ:Sig) (s:Nat→V) (i:I):Option (Nat→V):=
 match i.g with
 | none=>yk D σ s i.d i.l i.x
 | some (j,want)=>match s j with
   | .bool b=>if b=want then yk D σ s i.d i.l i.x else some (put s i.d (.tup []))
   | .tup []=>some (put s i.d (.tup []))
   | _=>none
def YX (D:Den) (σ:Sig):List I→(Nat→V)→Option (Nat→V)
 | [],s=>some s
 | i :: is,s=>match step D σ s i with
   | some s'=>YX D σ is s'
   | none=>none
def Yx (P:Program) (f:Nat) (m:Nat) (al:Bool) (args:List V) (r:V):Prop:=
 ∀ (d:Nat) (w:World) (S:Nat→Prop) (τ:Tok→Blk) (vals:Array Value),(∀ b,S b→b < w.heap.size)→z6 w S τ args vals.toList→V.tokss args=[] →
  Calls P f vals w fun e w'=>∃ v τ',e = .returned v∧Go.RowKit.Below w.heap.size w w' ∧
   (∀ k∈(V.tag d [] m r).toks,k.root?=some d∧w.heap.size≤(τ' k).b∧(τ' k).b < w'.heap.size) ∧
   (∀ k∈(V.tag d [] m r).toks,∀ k'∈(V.tag d [] m r).toks,(τ' k).b=(τ' k').b→k=k') ∧
   zu w' (fun b=>(al=true∧S b∨w.heap.size≤b)∧b < w'.heap.size∧∀ k∈(V.tag d [] m r).toks,(τ' k).b≠b) τ' (V.tag d [] m r) v
def zfX (P:Program) (f:Nat) (args:List V) (r u:V):Prop:=
 ∀ (w:World) (S:Nat→Prop) (τ:Tok→Blk) (vals:Array Value),(∀ b,S b→b < w.heap.size)→z6 w S τ args vals.toList →
  (∀ k∈V.tokss args,k.pinned=true∧(τ k).b < w.heap.size∧¬ S (τ k).b)→(∀ k∈V.tokss args,∀ k'∈V.tokss args,(τ k).b=(τ k').b→k=k')→r.num=true →
  Calls P f vals w fun e w'=>∃ v,e = .returned v∧Bel (fun b=>w.heap.size≤b∨∃ k∈V.tokss args,(τ k).b=b) w w'∧zu w' S τ r v ∧
   ∀ v0,args.head?=some v0→v0.like u=true→u.mine=true→(∀ k∈u.toks,k.pinned=true)→zu w' S τ u (vals.getD 0 undef)
def zgd (P:Program) (f:Nat) (args:List V) (r:V):Prop:=
 ∀ (d:Nat) (w:World) (S:Nat→Prop) (τ:Tok→Blk) (vals:Array Value),(∀ b,S b→b < w.heap.size)→z6 w S τ args vals.toList →
  (∀ k∈V.tokss args,k.pinned=true∧(τ k).b < w.heap.size∧¬ S (τ k).b)→(∀ k∈V.tokss args,∀ k'∈V.tokss args,(τ k).b=(τ k').b→k=k') →
  Calls P f vals w fun e w'=>∃ v τ',e = .returned v∧Bel (fun b=>w.heap.size≤b∨∃ k∈V.tokss args,(τ k).b=b) w w' ∧
   (∀ k∈(V.tag d [] 1 r).toks,k.root?=some d∧(w.heap.size≤(τ' k).b∨∃ k2∈V.tokss args,(τ k2).b=(τ' k).b)∧(τ' k).b < w'.heap.size) ∧
   (∀ k∈(V.tag d [] 1 r).toks,∀ k'∈(V.tag d [] 1 r).toks,(τ' k).b=(τ' k').b→k=k') ∧
   zu w' (fun b=>(w.heap.size≤b∨∃ k2∈V.tokss args,(τ k2).b=b)∧b < w'.heap.size∧∀ k∈(V.tag d [] 1 r).toks,(τ' k).b≠b) τ' (V.tag d [] 1 r) v
def Nw (P:Program) (f:Nat) (args:List V) (r:V) (us:List V):Prop:=
 ∀ (w:World) (S:Nat→Prop) (τ:Tok→Blk) (vals:Array Value),(∀ b,S b→b < w.heap.size)→z6 w S τ args vals.toList →
  (∀ k∈V.tokss args,k.pinned=true∧(τ k).b < w.heap.size∧¬ S (τ k).b)→(∀ k∈V.tokss args,∀ k'∈V.tokss args,(τ k).b=(τ k').b→k=k')→r.toks=[] →
  Calls P f vals w fun e w'=>∃ v S',e = .returned v∧Bel (fun b=>w.heap.size≤b∨∃ k∈V.tokss args,(τ k).b=b) w w'∧zu w' S' τ r v ∧
   (∀ b,S' b→b < w'.heap.size∧(S b∨w.heap.size≤b∨∃ k∈V.tokss args,(τ k).b=b)) ∧
   ∀ u∈us,(∀ k∈u.toks,k.pinned=true)→(∀ k∈u.toks,¬ S' (τ k).b)∧∃ c,zu w' S' τ u c
def wn (P:Program) (f:Nat) (m:Nat) (al:Bool) (args:List V) (r:V):Prop:=
 if m=zJ then ∀ r' u,r = .tup [r',u]→zfX P f args r' u else if m=zl2 then zgd P f args r else if m=Zz then ∀ r' us,r = .tup [r',.tup us]→Nw P f args r' us else Yx P f m al args r
section
variable {P:Program} {w0:Ori} {S0:Nat→Prop} {n:Nat} {s s1:Nat→V} {a:Act} {w:World} {S:Nat→Prop} {τ:Tok→Blk}
theorem Inv.result (h:Inv w0 S0 n s a w S τ) {w':World} {d:Nat} {v:V} {c:Value} {τ':Tok→Blk} {S':Nat→Prop} (hd:d < n) (hg:s d = .gone) (hb:Go.RowKit.Below w.heap.size w w')
    (hown:∀ k∈v.toks,k.root?=some d∧w.heap.size≤(τ' k).b∧(τ' k).b < w'.heap.size) (hinj:∀ k∈v.toks,∀ k'∈v.toks,(τ' k).b=(τ' k').b→k=k')
    (hr:zu w' S' τ' v c) (hS1:∀ b,S' b→b < w'.heap.size∧(S b∨w0.N b)∧∀ k∈v.toks,(τ' k).b≠b) (hS2:∀ t k,k∈(s t).toks→¬ S' (τ k).b) (l:Bool) (hok:v.ok=true) :
    Inv w0 S0 n (upd s d (if l then .lin v else v)) (a.put (some d) c) w' (fun b=>S b∨S' b) (fun k=>if k.root?=some d then τ' k else τ k):=by
 have hne:∀ t k,k∈(s t).toks→k.root?≠some d:=fun t k hk=>h.gone d t k hg hk
 have htoks:(if l then V.lin v else v).toks=v.toks:=by cases l <;> simp [V.toks]
 have key:∀ t k,k∈(upd s d (if l then .lin v else v) t).toks→(k∈v.toks∧t=d)∨(k∈(s t).toks∧t≠d):=by
  intro t k hk
  by_cases e:t=d
  · subst e;rw [upd_same,htoks] at hk;exact .inl ⟨hk,rfl⟩
  · rw [zS _ _ e] at hk;exact .inr ⟨hk,e⟩
 have hsz:=hb.size
 refine ⟨?_,by rw [MQ];exact h.size,by rw [JD];exact h.defers,?_,?_,?_,?_,fun b hb=>.inl (h.s0 b hb),h.below.trans (.of_below hb),?_,?_,h.small,?_⟩
 · intro t
   by_cases e:t=d
   · subst e
     rw [upd_same,Ws (by rw [h.size];exact hd)]
     have hr':zu w' (fun b=>S b∨S' b) (fun k=>if k.root?=some t then τ' k else τ k) v c:=
      xP (w:=w') (fun b hb=>⟨.inr hb,rfl⟩) v c hr (fun k hk=>⟨by rw [if_pos (hown k hk).1],rfl⟩)
     cases l
     · exact hr'
     · simpa [zu] using hr'
   · rw [zS _ _ e,U5 e]
     exact xP (w:=w) (τ:=τ) (fun b hb'=>⟨.inl hb',hb.block b (h.sbd b hb')⟩) _ _ (h.told t) (fun k hk=>⟨by rw [if_neg (hne t k hk)],hb.block _ (h.own t k hk).2.1⟩)
 · intro t k hk
   rcases key t k hk with ⟨hk,_⟩ | ⟨hk,_⟩
   · have h1:=hown k hk
     rw [if_pos h1.1]
     refine ⟨w0.up _ (Nat.le_trans h.below.size h1.2.1),h1.2.2,?_⟩
     rintro (hs | hs)
     · have:=h.sbd _ hs;omega
     · exact (hS1 _ hs).2.2 k hk rfl
   · have h1:=h.own t k hk
     rw [if_neg (hne t k hk)]
     exact ⟨h1.1,by omega,by rintro (hs | hs);exact h1.2.2 hs;exact hS2 t k hk hs⟩
 · intro t t' k k' hk hk' e
   rcases key t k hk with ⟨hk,_⟩ | ⟨hk,_⟩ <;> rcases key t' k' hk' with ⟨hk',_⟩ | ⟨hk',_⟩
   · rw [if_pos (hown k hk).1,if_pos (hown k' hk').1] at e;exact hinj k hk k' hk' e
   · rw [if_pos (hown k hk).1,if_neg (hne t' k' hk')] at e
     have h1:=hown k hk;have h2:=h.own t' k' hk';omega
   · rw [if_neg (hne t k hk),if_pos (hown k' hk').1] at e
     have h1:=hown k' hk';have h2:=h.own t k hk;omega
   · rw [if_neg (hne t k hk),if_neg (hne t' k' hk')] at e;exact h.inj t t' k k' hk hk' e
 · rintro b (hs | hs)
   · have:=h.sbd b hs;omega
   · exact (hS1 b hs).1
 · rintro b (hs | hs)
   · exact h.sfr b hs
   · rcases (hS1 b hs).2.1 with h1 | h1
     · exact h.sfr b h1
     · exact .inr h1
 · intro r u t k hl ht hk
   by_cases er:r=d
   · subst er
     rcases key t k hk with ⟨hk,e⟩ | ⟨hk,_⟩
     · exact absurd e ht
     · exact hne t k hk
   · rw [zS _ _ er] at hl
     rcases key t k hk with ⟨hk,e⟩ | ⟨hk,_⟩
     · rw [(hown k hk).1];simp;exact fun e=>er e.symm
     · exact h.lin r u t k hl ht hk
 · intro r t k hg' hk
   by_cases er:r=d
   · subst er
     rw [upd_same] at hg'
     cases l
     · simp at hg';subst hg';simp [V.ok] at hok
     · cases hg'
   · rw [zS _ _ er] at hg'
     rcases key t k hk with ⟨hk,e⟩ | ⟨hk,_⟩
     · rw [(hown k hk).1];simp;exact fun e=>er e.symm
     · exact h.gone r t k hg' hk
 · intro t k hk hp
   rcases key t k hk with ⟨hk,_⟩ | ⟨hk,_⟩
   · obtain ⟨r,e1,e2⟩:=UU hp
     rw [(hown k hk).1] at e1
     simp only [Option.some.injEq] at e1
     have:=h.small
     omega
   · rw [if_neg (hne t k hk)];exact h.pin t k hk hp
def UQ (P:Program):List Operand→List TypeId→Option (List O)
 | [],_=>some []
 | x :: xs,ts=>match cO (shE P (ts.headD 0)) x,UQ P xs ts.tail with
   | some o,some os=>some (o :: os)
   | _,_=>none
def ziS (w0:Ori) (S0:Nat→Prop) (n:Nat) (s:Nat→V) (a:Act) (w:World) (S:Nat→Prop) (τ:Tok→Blk) (os:List O) (s1:Nat→V) (vs:List V) (cs:List Value):Prop:=
 Inv w0 S0 n s1 a w S τ∧(∃ K:List Tok,(∀ S' τ',(∀ b,S b→S' b)→(∀ k∈K,S' (τ k).b)→z6 w S' τ' vs cs) ∧
     (∀ k∈K,(∃ t,k∈(s t).toks)∧(k∈yw s os∨∀ t k',k'∈(s1 t).toks→(τ k').b≠(τ k).b)))∧V.tokss vs=[]∧(∀ t,s t = .gone→s1 t = .gone)∧(∀ t k,k∈(s1 t).toks→k∈(s t).toks)
theorem Inv.args:∀ (xs:List Operand) (ts:List TypeId) (os:List O) (s s1:Nat→V) (vs:List V),Inv w0 S0 n s a w S τ→UQ P xs ts=some os→yG os s=some (vs,s1) →
    ziS w0 S0 n s a w S τ os s1 vs (xs.map a.eval)
 | [],ts,os,s,s1,vs,h,hc,ht=>by
   simp [UQ] at hc;subst hc
   simp [yG] at ht
   obtain ⟨rfl,rfl⟩:=ht
   exact ⟨h,⟨[],fun S' τ' _ _=>by simp [z6],by simp⟩,rfl,fun t h=>h,fun t k h=>h⟩
 | x :: xs,ts,os,s,s1,vs,h,hc,ht=>by
   simp only [UQ] at hc
   split at hc
   · rename_i o os' ho hos
     simp only [Option.some.injEq] at hc;subst hc
     simp only [yG] at ht
     have hrel:=MS ho h.told
     have stay:∀ v:V,o.ev s=v→v.ok=true→(yG os' s).map (fun p=>(v.erase :: p.1,p.2))=some (vs,s1)→yw s (o :: os')=v.toks++yw s os' →
         ziS w0 S0 n s a w S τ (o :: os') s1 vs ((x :: xs).map a.eval):=by
      intro v hv hok ht hheld
      simp only [Option.map_eq_some_iff] at ht
      obtain ⟨⟨vs',s1'⟩,ht',e⟩:=ht
      simp only [Prod.mk.injEq] at e
      obtain ⟨rfl,rfl⟩:=e
      obtain ⟨hI,⟨K,hK1,hK2⟩,h0,hg,hsub⟩:=Inv.args xs ts.tail os' s s1' vs' h hos ht'
      have hfrom:∀ k∈v.toks,∃ t,k∈(s t).toks:=by
       have:o.rd s=some v:=by unfold O.rd;rw [hv,if_pos hok]
       intro k hk
       obtain ⟨t,h1,_⟩:=(W8 ho this).1 k hk
       exact ⟨t,h1⟩
      refine ⟨hI,⟨v.toks++K,?_,?_⟩,by simp [V.tokss,YM,h0],hg,hsub⟩
      · intro S' τ' hS hk
        simp only [z6,List.map_cons]
        refine ⟨_,_,rfl,Ud hS v _ (by rw [← hv];exact hrel) (fun k hk'=>hk k (by simp [hk'])),hK1 S' τ' hS (fun k hk'=>hk k (by simp [hk']))⟩
      · intro k hk
        rw [hheld]
        rcases List.mem_append.1 hk with hk | hk
        · exact ⟨hfrom k hk,.inl (by simp [hk])⟩
        · have:=hK2 k hk
          exact ⟨this.1,this.2.imp (fun h=>by simp [h]) id⟩
     split at ht
     · cases ht
     · rename_i v hv
       split at ht
       · rename_i r
         simp only [O.ev] at hv
         simp only [Option.map_eq_some_iff] at ht
         obtain ⟨⟨vs',s1'⟩,ht',e⟩:=ht
         simp only [Prod.mk.injEq] at e
         obtain ⟨rfl,rfl⟩:=e
         obtain ⟨hI,⟨K,hK1,hK2⟩,h0,hg,hsub⟩:=Inv.args xs ts.tail os' (upd s r .dead) s1' vs' (h.drop r) hos ht'
         have hupd:∀ t k,k∈(upd s r .dead t).toks→k∈(s t).toks∧t≠r:=by
          intro t k hk
          by_cases e:t=r
          · subst e;rw [upd_same] at hk;simp [V.toks] at hk
          · rw [zS _ _ e] at hk;exact ⟨hk,e⟩
         have hrel':zu w S τ v (a.eval x):=by
          have h1:=hrel
          simp only [O.ev] at h1
          rw [hv] at h1
          simpa [zu] using h1
         have hheld:∀ os:List O,∀ k∈yw (upd s r .dead) os,k∈yw s os:=by
          intro os
          induction os with
          | nil=>intro k hk;exact hk
          | cons o' os' ih=>
            intro k hk
            simp only [yw,List.mem_append] at hk ⊢
            rcases hk with hk | hk
            · left
              cases o' with
              | k u=>exact hk
              | t m=>
                simp only [O.ev] at hk ⊢
                by_cases e:m=r
                · subst e;rw [upd_same] at hk;simp [V.toks] at hk
                · rw [zS _ _ e] at hk;exact hk
            · exact .inr (ih k hk)
         refine ⟨hI,⟨v.toks++K,?_,?_⟩,by simp [V.tokss,YM,h0],?_,fun t k hk=>(hupd t k (hsub t k hk)).1⟩
         · intro S' τ' hS hk
           simp only [z6,List.map_cons]
           exact ⟨_,_,rfl,Ud hS v _ hrel' (fun k hk'=>hk k (by simp [hk'])),hK1 S' τ' hS (fun k hk'=>hk k (by simp [hk']))⟩
         · intro k hk
           rcases List.mem_append.1 hk with hk | hk
           · have hin:k∈(s r).toks:=by rw [hv];simpa [V.toks] using hk
             refine ⟨⟨r,hin⟩,?_⟩
             by_cases hroot:k.root?=some r
             · right
               intro t k' hk' e
               have h1:=hupd t k' (hsub t k' hk')
               have:=h.inj t r k' k h1.1 hin e
               subst this
               exact h.lin r v t k' hv h1.2 h1.1 hroot
             · left
               simp only [yw,O.ev,hv,List.mem_append,List.mem_filter,bne_iff_ne]
               exact .inl ⟨hk,hroot⟩
           · have:=hK2 k hk
             obtain ⟨⟨t,ht⟩,h2⟩:=this
             exact ⟨⟨t,(hupd t k ht).1⟩,h2.imp (fun h=>by simp only [yw,List.mem_append];exact .inr (hheld os' k h)) id⟩
         · intro t ht
           exact hg t (by rw [zS _ _ (by rintro rfl;rw [hv] at ht;cases ht)];exact ht)
       · cases ht
     · rename_i v hnl hng
       have hok:(o.ev s).ok=true:=by
        cases hv:o.ev s <;> first | rfl | (exact absurd hv hnl) | (exact absurd hv (hng _))
       exact stay (o.ev s) rfl hok ht (by
        simp only [yw])
   · cases hc
end
end Go.Zq
namespace Go.Zq
def LP:Operand→Operand→Bool
 | .tmp t,.tmp t'=>t == t'
 | .const (.int _ m),.const (.int _ n)=>m == n
 | _,_=>false
def Md (P:Program) (e:TypeId):Option V:=
 match zV P 6 e,P.info? e with
 | some z,some info=>(match info.zero with
   | some zv=>if Nm z zv.cells.toList && info.size == z.shape.size && zv.cells.size == info.size && decide (0 < info.bytes∧info.bytes≤64) then some z else none
   | none=>none)
 | _,_=>none
def cX (P:Program) (op:Op) (ty:TypeId):Option X:=
 match op with
 | .alloc e=>(Md P e).map .alloc
 | .box e x=>(cO (shE P e) x).map .box
 | .makeSlice t m k=>match P.underlying t,cO .s m with
   | some (.slice e),some m'=>if LP m k then (Md P e).map fun z=>.mk m' z.erase z else none
   | _,_=>none
 | .buildSlice t len ps=>match P.underlying t with
   | some (.slice e)=>(match Md P e with
     | some z=>(match ps.toList.mapM (zcT (fun i=>some (i * z.shape.size,z.shape.size)) (fun _=>shE P e)) with
       | some ps=>if len * z.shape.size≤2 ^ 24 then some (.lit z len ps) else none
       | none=>none)
     | none=>none)
   | _=>none
 | .store t x y=>match shT P 6 t,cO .s x,cO (shE P t) y with
   | some h,some x,some y=>if vg P t == some h.size then some (.store h x y) else none
   | _,_,_=>none
 | .call { callee:=.builtin .append,args,argTypes }=>match args.toList,argTypes.toList with
   | [x,y],[ta,tb]=>(match P.underlying ta,P.underlying tb,cO (shE P ta) x,cO (shE P tb) y with
     | some (.slice e),some (.slice _),some x,some y=>(Md P e).map fun z=>.app z.shape x y
     | _,_,_,_=>none)
   | _,_=>none
 | .call { callee:=.builtin .copy,args,argTypes }=>match args.toList,argTypes.toList with
   | [x,y],[ta,tb]=>(match P.underlying ta,cO (shE P ta) x,cO (shE P tb) y with
     | some (.slice e),some x,some y=>if vg P e == some 1 then some (.copy x y) else none
     | _,_,_=>none)
   | _,_=>none
 | .call { callee:=.value f,args,argTypes }=>match cO .s f,UQ P args.toList argTypes.toList with
   | some f,some as=>some (.call f as)
   | _,_=>none
 | op=>(cA P op ty).map .v
structure zr (P:Program) (D:Den) (σ:Sig):Prop where
 con:∀ g args r m al,D g args=some r→σ g=some (m,al)→wn P (unk g) m al args r
 fn : ∀ g m al, σ g = some (m, al) → ∃ fn, P.funcs[unk g]? = some fn ∧ fn.body.isNone = false ∧ (fn.name == "runtime.NumGoroutine") = false
section
variable {P:Program} {w0:Ori} {S0:Nat→Prop} {n:Nat} {s s':Nat→V} {a:Act} {w:World} {S:Nat→Prop} {τ:Tok→Blk}
theorem W2 {e:TypeId} {z:V} (h:Md P e=some z):∃ info zv,P.info? e=some info∧info.zero=some zv∧Nm z zv.cells.toList=true∧info.size=z.shape.size∧zv.cells.size=info.size∧0 < info.bytes∧info.bytes≤64:=by
 unfold Md at h
 split at h
 · rename_i z' info hz hi
   split at h
   · rename_i zv hzv
     split at h
     · rename_i hc
       simp only [Option.some.injEq] at h;subst h
       simp only [Bool.and_eq_true,beq_iff_eq,decide_eq_true_eq] at hc
       exact ⟨info,zv,hi,hzv,hc.1.1.1,hc.1.1.2,hc.1.2,hc.2.1,hc.2.2⟩
     · cases h
   · cases h
 · cases h
theorem Inv.grow (h:Inv w0 S0 n s a w S τ) {w':World} {S':Nat→Prop} (hb:Go.RowKit.Below w.heap.size w w') (hS1:∀ b,S' b→b < w'.heap.size∧(S b∨w0.N b)) (hS2:∀ t k,k∈(s t).toks→¬ S' (τ k).b) :
    Inv w0 S0 n s a w' (fun b=>S b∨S' b) τ:=by
 have hsz:=hb.size
 refine ⟨?_,h.size,h.defers,?_,h.inj,?_,?_,fun b hb=>.inl (h.s0 b hb),h.below.trans (.of_below hb),h.lin,h.gone,h.small,h.pin⟩
 · intro t
   exact xP (w:=w) (τ:=τ) (fun b hb'=>⟨.inl hb',hb.block b (h.sbd b hb')⟩) _ _ (h.told t) (fun k hk=>⟨rfl,hb.block _ (h.own t k hk).2.1⟩)
 · intro t k hk
   have h1:=h.own t k hk
   exact ⟨h1.1,by omega,by rintro (hs | hs);exact h1.2.2 hs;exact hS2 t k hk hs⟩
 · rintro b (hs | hs)
   · have:=h.sbd b hs;omega
   · exact (hS1 b hs).1
 · rintro b (hs | hs)
   · exact h.sfr b hs
   · rcases (hS1 b hs).2 with h1 | h1
     · exact h.sfr b h1
     · exact .inr h1
theorem Inv.putVal (h:Inv w0 S0 n s a w S τ) {v:V} {c:Value} (hr:zu w S τ v c) (hf:UV s v) (hok:v.ok=true) (d:Option Nat) (hd:∀ k,d=some k→k < n):Inv w0 S0 n (put s d v) (a.put d c) w S τ:=by
 cases d with
 | none=>exact h
 | some d=>exact h.val hr hf hok (hd d rfl)
theorem Xr {v:V} (h:v.toks=[]):UV s v:=by intro k hk;rw [h] at hk;cases hk
theorem Xp {w:World} {S:Nat→Prop} {τ:Tok→Blk}:∀ (us vs:List V) (cs ds:List Value),z6 w S τ us cs→z6 w S τ vs ds→z6 w S τ (us++vs) (cs++ds)
 | [],vs,cs,ds,h1,h2=>by simp only [z6] at h1;subst h1;simpa using h2
 | u :: us,vs,cs,ds,h1,h2=>by
   simp only [z6] at h1
   obtain ⟨c,cs',rfl,hc,hcs⟩:=h1
   simp only [List.cons_append,z6]
   exact ⟨c,cs'++ds,rfl,hc,Xp us vs cs' ds hcs h2⟩
theorem MV {w:World} {S:Nat→Prop} {τ:Tok→Blk}:∀ (us:List V) (cs:List Value),wE w S τ us cs→z6 w S τ us cs
 | [],cs,h=>by simpa [wE,z6] using h
 | u :: us,cs,h=>by
   simp only [wE] at h
   obtain ⟨c,cs',rfl,h1,h2,h3⟩:=h
   simp only [z6]
   refine ⟨c,cs',rfl,?_,MV us cs' h3⟩
   cases hu:u.isAgg with
   | true=>
     obtain ⟨arr,rfl⟩:=h2.1 hu
     cases u with
     | agg vs=>simp only [zt,Value.cells] at h1;exact ⟨arr,rfl,h1⟩
     | _=>simp [V.isAgg] at hu
   | false=>
     have hc:c.cells.toList=[c]:=by
      cases c with
      | agg arr=>exact absurd (h2.2 ⟨arr,rfl⟩) (by rw [hu];simp)
      | _=>rfl
     rw [hc] at h1
     exact Xm hu h1
theorem JO {w:World} {S:Nat→Prop} {τ:Tok→Blk}:∀ (us:List V) (cs:List Value),zZ w S τ us cs→(∀ u∈us,u.one=true)→z6 w S τ us cs
 | [],cs,h,_=>by simpa [zZ,z6] using h
 | u :: us,cs,h,h1=>by
   simp only [zZ] at h
   have hs:=zbF (h1 u (by simp))
   rw [hs] at h
   have hl:=wv _ _ _ _ _ h.1
   rw [hs] at hl
   cases cs with
   | nil=>simp at hl
   | cons c cs=>
     simp only [List.take_succ_cons,List.take_zero,List.drop_succ_cons,List.drop_zero] at h
     simp only [z6]
     exact ⟨c,cs,rfl,Xm (zdX (h1 u (by simp))) h.1,JO us cs h.2 fun x hx=>h1 x (by simp [hx])⟩
theorem Inv.cell (h:Inv w0 S0 n s a w S τ) {t0:Nat} {r:Nat} {p:List Nat} {lo:Nat} {xs:List V} (hs:s t0 = .sl (.at r p) .s lo xs) {j:Nat} (hj:j < xs.length) {u:V} {cv:Value} (hu:zt w S τ u [cv]) (hus:u.shape = .s) :
    ∃ b off cap w',a.eval (.tmp t0) = .slice (some ⟨b,off,none⟩) xs.length cap∧(storeCells ⟨b,off + j,none⟩ [cv]).run P w = .ok () w'∧Inv w0 S0 n (X5 (.at r p) (lo + j) [] u s) a w' S τ ∧
     (∀ v c,zt w S τ v [c]→v.shape = .s→zt w' S τ v [c]):=by
 have ht:=h.told t0
 rw [hs] at ht
 obtain ⟨a',cap,e,hle,hsx,hsh,hh⟩:=Zk ht
 rcases hh with h0 | ⟨b,off,arr,ty,fz,rfl,hw,hp,hfit,hr⟩
 · omega
 · obtain ⟨c,hc⟩:∃ c,xs[j]?=some c:=⟨xs[j],by simp [hj]⟩
   have hcs:c.shape = .s:=hsx c (List.mem_of_getElem? hc)
   have hg:=Z6 xs j c _ hr hc
   rw [XE xs j hsx (by omega)] at hg
   have hs1:Sh.s.size=1:=rfl
   simp only [hs1,Nat.mul_one] at hg hfit
   have hlen:((arr.toList.drop off).take xs.length).length=xs.length:=by simp;omega
   have hx:zu w S τ (.ref (.at r p) (lo + j) [] c) (.pointer (some ⟨b,off + j,none⟩)):=by
    simp only [zu,zt]
    obtain ⟨h1,h2,h3,h4⟩:=hp
    refine ⟨b,off + j,arr,ty,fz,rfl,hw,⟨h1,h4,0,?_,?_⟩,by rw [hcs];simp only [hs1];omega,by simp,?_⟩
    · rw [Uo,h2,hcs]
    · rw [h2,h3];simp only [hs1];omega
    · have e2:(((arr.toList.drop off).take xs.length).drop j).take c.shape.size=(arr.toList.drop (off + j)).take c.shape.size:=by
       rw [List.drop_take,List.take_take,List.drop_drop,hcs]
       simp only [hs1]
       congr 1;omega
      rw [← e2];exact hg.1
   have hc0:c.toks=[]:=U8 c (by rw [hcs];rfl)
   have hu0:u.toks=[]:=U8 u (by rw [hus];rfl)
   obtain ⟨b',off',w',e3,hrun,hI⟩:=h.store (P:=P) (t:=.at r p) (i:=lo + j) (q:=[]) (c:=c) (v:=u) hx (by
    intro k hk
    simp only [V.toks,hc0,List.mem_singleton] at hk
    subst hk
    exact ⟨t0,by rw [hs];simp [V.toks],by rw [hs];rfl⟩) (by simp) hu (by rw [UV,hu0];intro k hk;cases hk) (by rw [hus,hcs]) (.inl (by rw [hu0];simp))
   simp only [Value.pointer.injEq,Option.some.injEq,Addr.mk.injEq,and_true] at e3
   obtain ⟨rfl,rfl⟩:=e3
   refine ⟨b,off,cap,w',e,hrun,hI,?_⟩
   intro v c hv hvs
   exact NF S v _ hv (by rw [hvs];rfl)
theorem LA (ad:Addr) (c:Value) (cs:List Value) (i:Nat) (w w':World) (h:(storeCells (ad.add i) [c]).run P w = .ok () w'):(storeCells ad (c :: cs) i).run P w=(storeCells ad cs (i + 1)).run P w':=by
 simp only [storeCells,Sem.run_bind] at h ⊢
 have e:(ad.add i).add 0=ad.add i:=by
  unfold Addr.add
  split <;> simp_all
 rw [e] at h
 cases hr:(store (ad.add i) c).run P w with
 | ok u w1=>rw [hr] at h;simp at h;subst h;simp
 | _=>rw [hr] at h;cases h
theorem zmP {r:Nat} {p:List Nat} {lo j:Nat} {xs:List V} {u:V}:V.mut (.at r p) (lo + j) [] u (.sl (.at r p) .s lo xs) = .sl (.at r p) .s lo (V.setPs xs j [] u):=by
 simp [V.mut,Sh.flat]
theorem Mh (u:V):∀ (xs:List V) (j:Nat),(V.setPs xs j [] u).length=xs.length
 | [],j=>by simp [V.setPs]
 | x :: xs,0=>by simp [V.setPs]
 | x :: xs,j + 1=>by simp [V.setPs,Mh u xs j]
theorem Inv.copyRun:∀ (us:List V) (cs:List Value) {s:Nat→V} {w:World} {j:Nat} {xs:List V} {t0 r:Nat} {p:List Nat} {lo:Nat},Inv w0 S0 n s a w S τ→s t0 = .sl (.at r p) .s lo xs→j + us.length≤xs.length →
    zZ w S τ us cs→(∀ u∈us,u.shape = .s)→∀ base len cap,a.eval (.tmp t0) = .slice base len cap →
    ∃ w',(match base with | some ad=>(storeCells ad cs j).run P w | none=>.ok () w) = .ok () w'∧Inv w0 S0 n (Uu (.at r p) (lo + j) us s) a w' S τ
 | [],cs,s,w,j,xs,t0,r,p,lo,h,hs,hl,hr,hu,base,len,cap,he=>by
   simp only [zZ] at hr;subst hr
   refine ⟨w,?_,h⟩
   cases base <;> simp [storeCells]
 | u :: us,cs,s,w,j,xs,t0,r,p,lo,h,hs,hl,hr,hu,base,len,cap,he=>by
   simp only [zZ] at hr
   have hus:=hu u (by simp)
   rw [hus] at hr
   have hs1:Sh.s.size=1:=rfl
   rw [hs1] at hr
   have hl1:=wv _ _ _ _ _ hr.1
   rw [hus,hs1] at hl1
   cases cs with
   | nil=>simp at hl1
   | cons c cs=>
     simp only [List.take_succ_cons,List.take_zero,List.drop_succ_cons,List.drop_zero] at hr
     simp only [List.length_cons] at hl
     obtain ⟨b,off,cap',w1,e1,hrun,hI,hkeep⟩:=h.cell (P:=P) hs (j:=j) (by omega) hr.1 hus
     rw [he] at e1
     simp only [Value.slice.injEq] at e1
     obtain ⟨rfl,rfl,rfl⟩:=e1
     have hs':X5 (.at r p) (lo + j) [] u s t0 = .sl (.at r p) .s lo (V.setPs xs j [] u):=by simp only [X5,hs,zmP]
     have hrs:zZ w1 S τ us cs:=XY S us _ hr.2 fun v hv=>by rw [hu v (by simp [hv])];rfl
     obtain ⟨w2,hrun2,hI2⟩:=Inv.copyRun us cs (j:=j + 1) hI hs' (by rw [Mh];omega) hrs (fun v hv=>hu v (by simp [hv])) _ _ _ he
     refine ⟨w2,?_,?_⟩
     · simp only at hrun2 ⊢
       rw [LA ⟨b,off,none⟩ c cs j w w1 (by rw [Y0];exact hrun)]
       exact hrun2
     · simp only [Uu]
       exact hI2
theorem zdo {h:Sh} {t lo ys} {x:Value} {k:Nat} (hx:zu w S τ (.sl t h lo ys) x) (hh:h = .s) (hk:k≤ys.length) :
    ∃ cs:List Value,(Builtin.firstCells 1 k x).run P w = .ok cs.toArray w∧zZ w S τ (ys.take k) cs:=by
 subst hh
 obtain ⟨a',cap,rfl,hle,hsx,hsh,hh⟩:=Zk hx
 rcases hh with h0 | ⟨b,off,arr,ty,fz,rfl,hw,hp,hfit,hr⟩
 · have:ys=[]:=List.eq_nil_of_length_eq_zero (by omega)
   subst this
   have:k=0:=by simpa using hk
   subst this
   refine ⟨[],?_,by simp [zZ]⟩
   cases a' with
   | none=>simp [Builtin.firstCells]
   | some x=>simp [Builtin.firstCells,loadCells,loadCellsFrom]
 · have hs1:Sh.s.size=1:=rfl
   simp only [hs1,Nat.mul_one] at hfit hr
   refine ⟨(arr.toList.drop off).take k,?_,?_⟩
   · simp only [Builtin.firstCells,Nat.mul_one]
     exact Xc hw (by omega)
   · have h2:zZ w S τ (ys.take k++ys.drop k) ((arr.toList.drop off).take ys.length):=by rw [List.take_append_drop];exact hr
     rw [Zr,XE ys k hsx hk] at h2
     have:=h2.1
     rw [hs1,Nat.mul_one,List.take_take,Nat.min_eq_left hk] at this
     exact this
end
end Go.Zq
namespace Go.Zq
section
variable {P:Program} {w0:Ori} {S0:Nat→Prop} {n:Nat} {s s':Nat→V} {a:Act} {w:World} {S:Nat→Prop} {τ:Tok→Blk}
theorem ziT {x y:Operand} {k:IntKind} {m:Int} (h:LP x y=true) (hx:a.eval x = .int k m):∃ k',a.eval y = .int k' m:=by
 unfold LP at h
 split at h
 · simp at h;subst h;exact ⟨k,hx⟩
 · simp at h;subst h
   simp only [Act.eval,Value.int.injEq] at hx
   obtain ⟨_,rfl⟩:=hx
   exact ⟨_,rfl⟩
 · cases h
abbrev zao (w0:Ori) (S0:Nat→Prop) (n:Nat) (s':Nat→V) (K:Act→World→Prop):Prop:=∀ a' w' S' τ',Inv w0 S0 n s' a' w' S' τ'→K a' w'
theorem XZ {o:Oper} {K:Act→World→Prop} {Q:Exit→Act→World→Prop} {c:Value} {w':World} (h:(execOp a.eval o).run P w = .ok (.value c) w') (hk:K (a.put o.dst c) w'):o.wp P a w K Q:=by
 simp only [Oper.wp,h,Oper.upon];exact hk
theorem zb6 {D:Den} {σ:Sig} (hF:zr P D σ) {o:Oper} {f:O} {as:List O} {fo:Operand} {args:Array Operand} {argTypes:Array TypeId} (hop:o.op = .call { callee:=.value fo,args,argTypes })
    (hfo:cO .s fo=some f) (has:UQ P args.toList argTypes.toList=some as) (hI:Inv w0 S0 n s a w S τ) (hd:∀ k,o.dst=some k→k < n) {l ob:Bool} (hst:Ur D σ s o.dst l ob f as=some s')
    {K:Act→World→Prop} {Q:Exit→Act→World→Prop} (hK:zao w0 S0 n s' K):o.wp P a w K Q:=by
 simp only [Ur] at hst
 split at hst
 · rename_i g fs env hrd
   split at hst
   · rename_i vs s1 hta
     split at hst
     · rename_i r m al hD hσ
       split at hst
       · cases hst
       rename_i hgm
       have hgm:Nat.ble ZJ g=false:=by
        cases hb:Nat.ble ZJ g with
        | true=>exact absurd hb hgm
        | false=>rfl
       split at hst
       · cases hst
       · rename_i hal
         split at hst
         · rename_i hr
           simp only [Bool.and_eq_true,List.isEmpty_iff,List.all_eq_true] at hr
           obtain ⟨⟨hr0,hone⟩,hmp⟩:=hr
           have hmp2:m≠zl2:=by
            rintro rfl
            exact absurd hmp (by decide)
           have hmp3:m≠Zz:=by
            rintro rfl
            exact absurd hmp (by decide)
           have hmp:m≠zJ:=by
            rintro rfl
            exact absurd hmp (by decide)
           have hfr:=xd hfo hI.told hrd
           have h1:=hfr.1
           simp only [zu,zt] at h1
           obtain ⟨fst,cap,ef,hfs,henv⟩:=h1
           simp only [List.cons.injEq,and_true] at ef
           obtain ⟨hI1,⟨K0,hK1,hK2⟩,hv0,hgone,hsub⟩:=Inv.args args.toList argTypes.toList as s s1 vs hI has hta
           have hfrom:∀ k∈(V.fn g fs env).toks,∃ t,k∈(s t).toks:=fun k hk=>by obtain ⟨t,h,_⟩:=hfr.2.1 k hk;exact ⟨t,h⟩
           let SC:Nat→Prop:=fun b=>S b∨∃ k,(k∈K0∨k∈(V.fn g fs env).toks)∧(τ k).b=b
           have hSC:∀ b,SC b→b < w.heap.size:=by
            rintro b (hb | ⟨k,hk | hk,rfl⟩)
            · exact hI.sbd b hb
            · obtain ⟨⟨t,ht⟩,_⟩:=hK2 k hk;exact (hI.own t k ht).2.1
            · obtain ⟨t,ht⟩:=hfrom k hk;exact (hI.own t k ht).2.1
           have hargs:z6 w SC τ (V.erases fs++vs++V.erases env) (fst++args.map a.eval++cap).toList:=by
            have e:(fst++args.map a.eval++cap).toList=fst.toList++args.toList.map a.eval++cap.toList:=by simp
            rw [e]
            refine Xp _ _ _ _ (Xp _ _ _ _ ?_ ?_) ?_
            · exact We (fun b hb=>.inl hb) fs _ (MV fs _ hfs) (fun k hk=>.inr ⟨k,.inr (by simp [V.toks,hk]),rfl⟩)
            · exact hK1 SC τ (fun b hb=>.inl hb) (fun k hk=>.inr ⟨k,.inl hk,rfl⟩)
            · exact We (fun b hb=>.inl hb) env _ (JO env _ henv hone) (fun k hk=>.inr ⟨k,.inr (by simp [V.toks,hk]),rfl⟩)
           have hargs0:V.tokss (V.erases fs++vs++V.erases env)=[]:=by rw [Yr,Yr,uk,uk,hv0];rfl
           obtain ⟨fn,hfn,hbody,hname⟩:=hF.fn _ m al hσ
           rw [LL hgm] at hfn
           have hcon:Yx P g m al (V.erases fs++vs++V.erases env) r:=by
            have:=hF.con _ _ r m al hD hσ
            rw [LL hgm] at this
            unfold wn at this
            rw [if_neg hmp,if_neg hmp2,if_neg hmp3] at this
            exact this
           have hcall:=hcon (o.dst.getD 0) w SC τ (fst++args.map a.eval++cap) hSC hargs hargs0
           have hexec:(execOp a.eval o).run P w = .ok (.enter g (fst++args.map a.eval++cap)) w:=by
            simp only [execOp,hop,resolve,ef,Deferred.ofValue,Sem.run_bind,Sem.run_pure,Result.andThen_ok,invoke,callFunc,run_program,hfn,hname,hbody,Bool.false_eq_true,if_false]
           simp only [Oper.wp,hexec,Oper.upon]
           refine hcall.mono ?_
           rintro e w' ⟨v,τ',rfl,hbel,hown,hinj,hrel⟩
           have hS2:∀ t k,k∈(s1 t).toks→¬ ((al=true∧SC (τ k).b∨w.heap.size≤(τ k).b)∧(τ k).b < w'.heap.size∧∀ k'∈(V.tag (o.dst.getD 0) [] m r).toks,(τ' k').b≠(τ k).b):=by
            rintro t k hk ⟨⟨hal',hs⟩ | hs,_⟩
            · rcases hs with hs | ⟨k',hk',e⟩
              · exact (hI1.own t k hk).2.2 hs
              · have hal2:(yw s as).isEmpty=true∧(V.fn g fs env).toks.isEmpty=true:=by
                 simp only [hal',Bool.true_and,Bool.not_eq_true',Bool.not_eq_false'] at hal
                 simpa using hal
                simp only [List.isEmpty_iff] at hal2
                rcases hk' with hk' | hk'
                · rcases (hK2 k' hk').2 with h | h
                  · rw [hal2.1] at h;cases h
                  · exact h t k hk e.symm
                · rw [hal2.2] at hk';cases hk'
            · have:=(hI1.own t k hk).2.1;omega
           have hS1:∀ b,((al=true∧SC b∨w.heap.size≤b)∧b < w'.heap.size∧∀ k'∈(V.tag (o.dst.getD 0) [] m r).toks,(τ' k').b≠b)→b < w'.heap.size∧(S b∨w0.N b)∧∀ k'∈(V.tag (o.dst.getD 0) [] m r).toks,(τ' k').b≠b:=by
            rintro b ⟨h1,h2,h3⟩
            refine ⟨h2,?_,h3⟩
            rcases h1 with ⟨_,hs | ⟨k,hk,rfl⟩⟩ | hs
            · exact .inl hs
            · right
              rcases hk with hk | hk
              · obtain ⟨⟨t,ht⟩,_⟩:=hK2 k hk;exact (hI.own t k ht).1
              · obtain ⟨t,ht⟩:=hfrom k hk;exact (hI.own t k ht).1
            · exact .inr (w0.up _ (Nat.le_trans hI.below.size hs))
           unfold Zq.place at hst
           split at hst
           · rename_i ht0
             simp only [List.isEmpty_iff] at ht0
             split at hst
             · rename_i hok
               simp only [Option.some.injEq] at hst;subst hst
               have hg:=hI1.grow hbel (S':=fun b=>(al=true∧SC b∨w.heap.size≤b)∧b < w'.heap.size∧∀ k'∈(V.tag (o.dst.getD 0) [] m r).toks,(τ' k').b≠b) (fun b hb=>⟨(hS1 b hb).1,(hS1 b hb).2.1⟩) hS2
               exact hK _ _ _ _ (hg.putVal (xP (w:=w') (τ:=τ') (fun b hb=>⟨.inr hb,rfl⟩) _ _ hrel (by rw [ht0];intro k hk;cases hk)) (Xr ht0) hok o.dst hd)
             · cases hst
           · split at hst
             · rename_i d hdst
               split at hst
               · rename_i hsd
                 split at hst
                 · rename_i hok
                   simp only [Option.some.injEq] at hst;subst hst
                   rw [hdst] at hown hinj hrel hS1 hS2 ⊢
                   simp only [Option.getD_some] at hown hinj hrel hS1 hS2 hok ⊢
                   rw [hdst] at hok
                   simp only [Option.getD_some] at hok
                   have:=hI1.result (d:=d) (v:=V.tag d [] m r) (hd d hdst) hsd hbel hown hinj hrel hS1 hS2 l hok
                   rw [hdst] at hK
                   exact hK _ _ _ _ this
                 · cases hst
               · cases hst
             · cases hst
         · cases hst
     · cases hst
   · cases hst
 · cases hst
theorem Bel.mono {N N':Nat→Prop} {w w':World} (h:Bel N w w') (hn:∀ b,N b→N' b):Bel N' w w':=
 ⟨h.os,h.tape,h.output,h.size,fun k hk hk'=>h.block k hk (fun e=>hk' (hn k e)),h.rows⟩
structure Rem (w w':World) (S:Nat→Prop) (τ:Tok→Blk) (ks:List Tok) (nv:V):Prop where
 shared:∀ b,S b→w'.heap[b]?=w.heap[b]?
 rows:∀ (b:Nat) (arr:Array Value) (ty:TypeId) (fz:Nat×Nat),w.heap[b]?=some (.cells arr ty fz)→∃ arr',w'.heap[b]?=some (.cells arr' ty fz)∧arr'.size=arr.size
 sub:∀ t h ys,V.sub t nv=some (h,ys)→∃ c,zt w' S τ (.sl t h 0 ys) [c]
theorem zdv {nv:V} {t:Tok} {h:Sh} {lo:Nat} {xs:List V}:(Mq nv t h lo xs).shape = .p:=by
 unfold Mq
 split
 · split <;> rfl
 · rfl
mutual
theorem WY (ks:List Tok) (nv:V):∀ v:V,(V.rem ks nv v).shape=v.shape
 | .dead | .gone | .int .. | .bool _ | .tup _ | .fn ..=>by simp [V.rem,V.shape]
 | .lin v=>by simp only [V.rem,V.shape];exact WY ks nv v
 | .agg vs=>by simp only [V.rem,V.shape];rw [UA ks nv vs]
 | .ref t i q c=>by cases t <;> simp only [V.rem] <;> (try split) <;> simp [V.shape]
 | .sl t h lo xs=>by cases t <;> simp only [V.rem] <;> (try split) <;> simp [V.shape,zdv]
theorem UA (ks:List Tok) (nv:V):∀ vs:List V,V.shapes (V.rems ks nv vs)=V.shapes vs
 | []=>rfl
 | v :: vs=>by simp [V.rems,V.shapes,WY ks nv v,UA ks nv vs]
end
theorem MW {ks:List Tok} {nv:V} {h:Sh} {xs:List V} (hx:∀ x∈xs,x.shape=h):∀ x∈V.rems ks nv xs,x.shape=h:=
 YO (UA ks nv xs) hx
theorem zbD (ks:List Tok) (nv:V):∀ vs:List V,(V.rems ks nv vs).length=vs.length
 | []=>rfl
 | v :: vs=>by simp [V.rems,zbD ks nv vs]
theorem zfW (ks:List Tok) (nv:V) (v:V):(V.rem ks nv v).isAgg=v.isAgg:=by
 cases v with
 | sl t g lo xs=>cases t <;> simp only [V.rem] <;> (try split) <;> (try unfold Mq) <;> (try split) <;> (try split) <;> rfl
 | ref t i q c=>cases t <;> simp only [V.rem] <;> (try split) <;> rfl
 | _=>rfl
mutual
theorem zcD (ks:List Tok) (nv:V):∀ v:V,v.shape.flat=true→V.rem ks nv v=v
 | .dead,_=>rfl
 | .gone,_=>rfl
 | .lin v,h=>by simp only [V.rem];rw [zcD ks nv v (by simpa [V.shape] using h)]
 | .tup _,h=>by simp [V.shape,Sh.flat] at h
 | .fn _ _ _,h=>by simp [V.shape,Sh.flat] at h
 | .ref ..,h=>by simp [V.shape,Sh.flat] at h
 | .sl ..,h=>by simp [V.shape,Sh.flat] at h
 | .int ..,_=>rfl
 | .bool ..,_=>rfl
 | .agg vs,h=>by simp only [V.rem];rw [KP ks nv vs (by simpa [V.shape,Sh.flat] using h)]
theorem KP (ks:List Tok) (nv:V):∀ vs:List V,Sh.flats (V.shapes vs)=true→V.rems ks nv vs=vs
 | [],_=>rfl
 | v :: vs,h=>by
   simp only [V.shapes,Sh.flats,Bool.and_eq_true] at h
   simp only [V.rems]
   rw [zcD ks nv v h.1,KP ks nv vs h.2]
end
theorem zaf (ks:List Tok) (nv:V) {h:Sh} {xs:List V} (hx:∀ x∈xs,x.shape=h):(if h.flat then xs else V.rems ks nv xs)=V.rems ks nv xs:=by
 split
 · rename_i hf;rw [KP ks nv xs (Yd hf xs hx)]
 · rfl
theorem zcH {w w':World} {S:Nat→Prop} {τ:Tok→Blk} {ks:List Tok} {nv:V} (hR:Rem w w' S τ ks nv) {t:Tok} {h:Sh} {lo:Nat} {xs:List V} {cs:List Value} (ht:t≠.sh∧∀ r,t≠.bx r) (hr:zt w S τ (.sl t h lo xs) cs) :
    zt w' S τ (Mq nv t h lo xs) cs:=by
 unfold Mq
 split
 · rename_i h' ys hsub
   split
   · rename_i hq
     simp only [Bool.and_eq_true] at hq
     have hb:=Sh.beq_eq _ _ hq.1
     have hl:=Nat.eq_of_beq_eq_true hq.2.1
     have e3:=Nat.eq_of_beq_eq_true hq.2.2
     subst hb;subst hl
     obtain ⟨c1,f5⟩:=hR.sub t h' ys hsub
     simp only [zt] at hr f5 ⊢
     obtain ⟨a0,cap,hcc,hle,hxs,_,hh⟩:=hr
     obtain ⟨a1,cap1,hcc1,hle1,hys,hsh1,hh1⟩:=f5
     refine ⟨a0,cap,by rw [e3];exact hcc,by omega,hys,hsh1,hh.imp id ?_⟩
     rintro ⟨b,off,arr,ty,fz,ha,hw,hp,hfit,hrr⟩
     obtain ⟨arr',hw',hsz⟩:=hR.rows b arr ty fz hw
     refine ⟨b,off,arr',ty,fz,ha,hw',hp,by omega,?_⟩
     rcases hh1 with h0 | ⟨b1,off1,arr1,ty1,fz1,ha1,hw1,hp1,hfit1,hrr1⟩
     · have:ys=[]:=List.eq_nil_of_length_eq_zero (by omega)
       subst this
       simp [zZ]
     · cases t with
       | sh=>exact absurd rfl ht.1
       | nl=>exact hp.elim
       | bx r=>exact absurd rfl (ht.2 r)
       | «at» r p=>
         simp only [US] at hp hp1
         have hb1:b1=b:=by rw [← hp1.1,← hp.1]
         subst hb1
         rw [hw'] at hw1
         simp only [Option.some.injEq,Obj.cells.injEq] at hw1
         obtain ⟨rfl,_,_⟩:=hw1
         have ho:off1=off:=by rw [hp1.2.2.1,hp.2.2.1]
         subst ho
         exact hrr1
   · exact u7 (Jr hr)
 · exact u7 (Jr hr)
mutual
theorem XS {w w':World} {S:Nat→Prop} {τ:Tok→Blk} {ks:List Tok} {nv:V} (hR:Rem w w' S τ ks nv) (hks:∀ k,ks.contains k=true→∀ r,k≠.bx r) :
    ∀ (v:V) (cs:List Value),zt w S τ v cs→(∀ k∈v.toks,ks.contains k=false→w'.heap[(τ k).b]?=w.heap[(τ k).b]?)→zt w' S τ (V.rem ks nv v) cs
 | .dead,cs,h,_=>by simpa [zt,V.rem] using h
 | .gone,cs,h,_=>by simp [zt] at h
 | .lin _,cs,h,_=>by simp [zt] at h
 | .tup _,cs,h,_=>by simp [zt] at h
 | .int ..,cs,h,_=>by simpa [zt,V.rem] using h
 | .bool ..,cs,h,_=>by simpa [zt,V.rem] using h
 | .agg vs,cs,h,hk=>by
   simp only [zt,V.rem] at h ⊢
   exact Xy hR hks vs cs h (by simpa [V.toks] using hk)
 | .fn g fs env,cs,h,hk=>by
   simp only [zt,V.rem] at h ⊢
   obtain ⟨fst,cap,hc,h1,h2⟩:=h
   exact ⟨fst,cap,hc,NU hR hks fs _ h1 (fun k hk'=>hk k (by simp [V.toks,hk'])),Xy hR hks env _ h2 (fun k hk'=>hk k (by simp [V.toks,hk']))⟩
 | .ref t i q c,cs,hh,hk=>by
   have hh0:=hh
   simp only [zt] at hh
   obtain ⟨b,off,arr,ty,fz,hc,hw,hp,hle,hsh,hr⟩:=hh
   cases t with
   | nl=>exact hp.elim
   | sh=>
     simp only [V.rem,zt]
     refine ⟨b,off,arr,ty,fz,hc,by rw [hR.shared b hp];exact hw,hp,hle,fun _=>hsh rfl,?_⟩
     exact xt (fun b hb=>⟨hb,hR.shared b hb⟩) c _ hr (by rw [hsh rfl];intro k hk;cases hk)
   | «at» r p=>
     simp only [V.rem]
     split
     · exact u7 (UD hh0)
     · rename_i hc'
       have h0:=hk (.at r p) (by simp [V.toks]) (by simpa using hc')
       simp only [zt,WY]
       refine ⟨b,off,arr,ty,fz,hc,?_,hp,hle,by simp,XS hR hks c _ hr fun k hk'=>hk k (by simp [V.toks,hk'])⟩
       rw [← hp.1,h0,hp.1];exact hw
   | bx r=>
     simp only [V.rem]
     split
     · rename_i hc';exact absurd rfl (hks _ hc' r)
     · rename_i hc'
       have h0:=hk (.bx r) (by simp [V.toks]) (by simpa using hc')
       simp only [zt,WY]
       refine ⟨b,off,arr,ty,fz,hc,?_,hp,hle,by simp,XS hR hks c _ hr fun k hk'=>hk k (by simp [V.toks,hk'])⟩
       rw [← hp.1,h0,hp.1];exact hw
 | .sl t h lo xs,cs,hh,hk=>by
   have hh0:=hh
   simp only [zt] at hh
   obtain ⟨a,cap,hc,hle,hx,hsh,hh⟩:=hh
   have hlen:(V.rems ks nv xs).length=xs.length:=zbD ks nv xs
   cases t with
   | sh=>
     simp only [V.rem,zt]
     refine ⟨a,cap,hc,hle,hx,fun _=>hsh rfl,hh.imp id ?_⟩
     rintro ⟨b,off,arr,ty,fz,ha,hw,hp,hle',hr⟩
     refine ⟨b,off,arr,ty,fz,ha,by rw [hR.shared b hp];exact hw,hp,hle',?_⟩
     exact xW (fun b hb=>⟨hb,hR.shared b hb⟩) xs _ hr (by rw [hsh rfl];intro k hk;cases hk)
   | nl=>
     simp only [V.rem]
     split
     · exact zcH hR ⟨by simp,by simp⟩ hh0
     · rw [zaf ks nv hx]
       simp only [zt]
       refine ⟨a,cap,by rw [hlen];exact hc,by rw [hlen];exact hle,MW hx,by simp,hh.imp id ?_⟩
       rintro ⟨b,off,arr,ty,fz,ha,hw,hp,hle',hr⟩
       exact hp.elim
   | «at» r p=>
     simp only [V.rem]
     split
     · exact zcH hR ⟨by simp,by simp⟩ hh0
     · rename_i hc'
       have h0:=hk (.at r p) (by simp [V.toks]) (by simpa using hc')
       rw [zaf ks nv hx]
       simp only [zt]
       refine ⟨a,cap,by rw [hlen];exact hc,by rw [hlen];exact hle,MW hx,by simp,hh.imp id ?_⟩
       rintro ⟨b,off,arr,ty,fz,ha,hw,hp,hle',hr⟩
       refine ⟨b,off,arr,ty,fz,ha,?_,hp,hle',by rw [hlen];exact Xy hR hks xs _ hr fun k hk'=>hk k (Ym hx (by simp) k hk')⟩
       rw [← hp.1,h0,hp.1];exact hw
   | bx r=>
     simp only [V.rem]
     split
     · rename_i hc';exact absurd rfl (hks _ hc' r)
     · rename_i hc'
       have h0:=hk (.bx r) (by simp [V.toks]) (by simpa using hc')
       rw [zaf ks nv hx]
       simp only [zt]
       refine ⟨a,cap,by rw [hlen];exact hc,by rw [hlen];exact hle,MW hx,by simp,hh.imp id ?_⟩
       rintro ⟨b,off,arr,ty,fz,ha,hw,hp,hle',hr⟩
       refine ⟨b,off,arr,ty,fz,ha,?_,hp,hle',by rw [hlen];exact Xy hR hks xs _ hr fun k hk'=>hk k (Ym hx (by simp) k hk')⟩
       rw [← hp.1,h0,hp.1];exact hw
theorem Xy {w w':World} {S:Nat→Prop} {τ:Tok→Blk} {ks:List Tok} {nv:V} (hR:Rem w w' S τ ks nv) (hks:∀ k,ks.contains k=true→∀ r,k≠.bx r) :
    ∀ (vs:List V) (cs:List Value),zZ w S τ vs cs→(∀ k∈V.tokss vs,ks.contains k=false→w'.heap[(τ k).b]?=w.heap[(τ k).b]?)→zZ w' S τ (V.rems ks nv vs) cs
 | [],cs,h,_=>by simpa [zZ,V.rems] using h
 | v :: vs,cs,h,hk=>by
   simp only [zZ,V.rems,WY] at h ⊢
   exact ⟨XS hR hks v _ h.1 fun k hk'=>hk k (by simp [V.tokss,hk']),Xy hR hks vs _ h.2 fun k hk'=>hk k (by simp [V.tokss,hk'])⟩
theorem NU {w w':World} {S:Nat→Prop} {τ:Tok→Blk} {ks:List Tok} {nv:V} (hR:Rem w w' S τ ks nv) (hks:∀ k,ks.contains k=true→∀ r,k≠.bx r) :
    ∀ (vs:List V) (cs:List Value),wE w S τ vs cs→(∀ k∈V.tokss vs,ks.contains k=false→w'.heap[(τ k).b]?=w.heap[(τ k).b]?)→wE w' S τ (V.rems ks nv vs) cs
 | [],cs,h,_=>by simpa [wE,V.rems] using h
 | v :: vs,cs,h,hk=>by
   simp only [wE,V.rems,zfW] at h ⊢
   obtain ⟨c,cs',e,h1,h2,h3⟩:=h
   exact ⟨c,cs',e,XS hR hks v _ h1 fun k hk'=>hk k (by simp [V.tokss,hk']),h2,NU hR hks vs _ h3 fun k hk'=>hk k (by simp [V.tokss,hk'])⟩
end
mutual
theorem Nj {w w':World} {S:Nat→Prop} {τ:Tok→Blk} {ks:List Tok} {nv:V} (hR:Rem w w' S τ ks nv) (hks:∀ k,ks.contains k=true→∀ r,k≠.bx r) :
    ∀ (v:V) (c:Value),zu w S τ v c→(∀ k∈v.toks,ks.contains k=false→w'.heap[(τ k).b]?=w.heap[(τ k).b]?)→zu w' S τ (V.rem ks nv v) c
 | .dead,_,_,_=>by simp [zu,V.rem]
 | .gone,_,_,_=>by simp [zu,V.rem]
 | .lin v,c,h,hk=>by
   simp only [zu,V.rem] at h ⊢
   exact Nj hR hks v c h (by simpa [V.toks] using hk)
 | .int ..,c,h,_=>by simpa [zu,V.rem] using h
 | .bool ..,c,h,_=>by simpa [zu,V.rem] using h
 | .agg vs,c,h,hk=>by
   simp only [zu,V.rem] at h ⊢
   obtain ⟨arr,e,h⟩:=h
   exact ⟨arr,e,Xy hR hks vs _ h (by simpa [V.toks] using hk)⟩
 | .tup vs,c,h,hk=>by
   simp only [zu,V.rem] at h ⊢
   obtain ⟨arr,e,h⟩:=h
   exact ⟨arr,e,Qe hR hks vs _ h (by simpa [V.toks] using hk)⟩
 | .fn g fs env,c,h,hk=>by
   have:=XS hR hks (.fn g fs env) [c] (by simpa only [zu] using h) hk
   simpa only [V.rem,zu] using this
 | .ref t i q u,c,h,hk=>by
   have:=XS hR hks (.ref t i q u) [c] (by simpa only [zu] using h) hk
   refine yP ?_ this
   cases t <;> simp only [V.rem] <;> (try split) <;> rfl
 | .sl t g lo xs,c,h,hk=>by
   have:=XS hR hks (.sl t g lo xs) [c] (by simpa only [zu] using h) hk
   refine yP ?_ this
   cases t <;> simp only [V.rem] <;> (try split) <;> (try unfold Mq) <;> (try split) <;> (try split) <;> rfl
theorem Qe {w w':World} {S:Nat→Prop} {τ:Tok→Blk} {ks:List Tok} {nv:V} (hR:Rem w w' S τ ks nv) (hks:∀ k,ks.contains k=true→∀ r,k≠.bx r) :
    ∀ (vs:List V) (cs:List Value),z6 w S τ vs cs→(∀ k∈V.tokss vs,ks.contains k=false→w'.heap[(τ k).b]?=w.heap[(τ k).b]?)→z6 w' S τ (V.rems ks nv vs) cs
 | [],cs,h,_=>by simpa [z6,V.rems] using h
 | v :: vs,cs,h,hk=>by
   simp only [z6,V.rems] at h ⊢
   obtain ⟨c,cs',e,h1,h2⟩:=h
   exact ⟨c,cs',e,Nj hR hks v c h1 fun k hk'=>hk k (by simp [V.tokss,hk']),Qe hR hks vs cs' h2 fun k hk'=>hk k (by simp [V.tokss,hk'])⟩
end
mutual
theorem zeL {w:World} {S:Nat→Prop} {τ:Tok→Blk} {t:Tok} {h:Sh} {ys:List V}:∀ (v:V) (cs:List Value),zt w S τ v cs→V.sub t v=some (h,ys)→∃ c,zt w S τ (.sl t h 0 ys) [c]
 | .dead,_,_,e | .gone,_,_,e | .int ..,_,_,e | .bool _,_,_,e | .fn ..,_,_,e | .ref ..,_,_,e | .lin _,_,_,e=>by simp [V.sub] at e
 | .tup _,_,hr,_=>by simp [zt] at hr
 | .agg vs,cs,hr,e=>by
   simp only [zt] at hr
   exact Kf vs cs hr (by simpa [V.sub] using e)
 | .sl t' g lo xs,cs,hr,e=>by
   simp only [V.sub] at e
   split at e
   · rename_i ht
     subst ht
     split at e
     · rename_i hl
       subst hl
       simp only [Option.some.injEq,Prod.mk.injEq] at e
       obtain ⟨rfl,rfl⟩:=e
       have h1:=hr
       simp only [zt] at h1
       obtain ⟨a,cap,hc,_⟩:=h1
       rw [hc] at hr
       exact ⟨_,hr⟩
     · cases e
   · simp only [zt] at hr
     obtain ⟨a,cap,hc,hle,hx,hsh,hh⟩:=hr
     cases t' with
     | «at» r p=>
       simp only at e
       split at e
       · cases e
       · rcases hh with h0 | ⟨b,off,arr,ty,fz,ha,hw,hp,hle',hr⟩
         · have:xs=[]:=List.eq_nil_of_length_eq_zero (by omega)
           subst this
           simp [V.subs] at e
         · exact Kf xs _ hr e
     | _=>simp at e
theorem Kf {w:World} {S:Nat→Prop} {τ:Tok→Blk} {t:Tok} {h:Sh} {ys:List V}:∀ (vs:List V) (cs:List Value),zZ w S τ vs cs→V.subs t vs=some (h,ys)→∃ c,zt w S τ (.sl t h 0 ys) [c]
 | [],_,_,e=>by simp [V.subs] at e
 | v :: vs,cs,hr,e=>by
   simp only [zZ] at hr
   simp only [V.subs] at e
   split at e
   · rename_i r hv
     simp only [Option.some.injEq] at e;subst e
     exact zeL v _ hr.1 hv
   · exact Kf vs _ hr.2 e
end
theorem ziB {w:World} {S:Nat→Prop} {τ:Tok→Blk} {t:Tok} {h:Sh} {ys:List V} {v:V} {c:Value} (hr:zu w S τ v c) (ht:∀ vs,v≠.tup vs) (e:V.sub t v=some (h,ys)):∃ c,zt w S τ (.sl t h 0 ys) [c]:=by
 cases v with
 | tup vs=>exact absurd rfl (ht vs)
 | agg vs=>simp only [zu] at hr;obtain ⟨arr,_,hr⟩:=hr;exact Kf vs _ hr (by simpa [V.sub] using e)
 | sl t' g lo xs=>exact zeL _ [c] (by simpa only [zu] using hr) e
 | _=>simp [V.sub] at e
mutual
theorem zb1 {t:Tok} {h:Sh} {ys:List V}:∀ (v:V),V.sub t v=some (h,ys)→∀ k∈(V.sl t h 0 ys).toks,k∈v.toks
 | .dead,e,_,_ | .gone,e,_,_ | .int ..,e,_,_ | .bool _,e,_,_ | .fn ..,e,_,_ | .ref ..,e,_,_ | .lin _,e,_,_=>by simp [V.sub] at e
 | .tup vs,e,k,hk=>by simpa [V.toks] using Jp vs (by simpa [V.sub] using e) k hk
 | .agg vs,e,k,hk=>by simpa [V.toks] using Jp vs (by simpa [V.sub] using e) k hk
 | .sl t' g lo xs,e,k,hk=>by
   simp only [V.sub] at e
   split at e
   · rename_i ht
     subst ht
     split at e
     · simp only [Option.some.injEq,Prod.mk.injEq] at e
       obtain ⟨rfl,rfl⟩:=e
       cases t' with
       | sh=>simp [V.toks] at hk
       | _=>simpa [V.toks] using hk
     · cases e
   · cases t' with
     | «at» r p=>
       simp only at e
       split at e
       · cases e
       · rename_i hf
         have:=Jp xs e k hk
         simp [V.toks,hf,this]
     | _=>simp at e
theorem Jp {t:Tok} {h:Sh} {ys:List V}:∀ (vs:List V),V.subs t vs=some (h,ys)→∀ k∈(V.sl t h 0 ys).toks,k∈V.tokss vs
 | [],e,_,_=>by simp [V.subs] at e
 | v :: vs,e,k,hk=>by
   simp only [V.subs] at e
   simp only [V.tokss,List.mem_append]
   split at e
   · rename_i r hv
     simp only [Option.some.injEq] at e;subst e
     exact .inl (zb1 v hv k hk)
   · exact .inr (Jp vs e k hk)
end
theorem KK {nv:V} {t:Tok} {h:Sh} {lo:Nat} {xs:List V} {k:Tok} (hk:k∈(Mq nv t h lo xs).toks):k∈nv.toks:=by
 unfold Mq at hk
 split at hk
 · rename_i h' ys hsub
   split at hk
   · rename_i hq
     simp only [Bool.and_eq_true] at hq
     have hb:=Sh.beq_eq _ _ hq.1
     subst hb
     exact zb1 nv hsub k hk
   · simp [V.toks] at hk
 · simp [V.toks] at hk
mutual
theorem Kp (ks:List Tok) (nv:V):∀ v:V,∀ k∈(V.rem ks nv v).toks,k∈v.toks∨k∈nv.toks
 | .dead,k,h | .gone,k,h | .int ..,k,h | .bool _,k,h=>by simp [V.rem,V.toks] at h
 | .lin v,k,h=>by simpa [V.toks] using Kp ks nv v k (by simpa [V.rem,V.toks] using h)
 | .tup vs,k,h=>by simpa [V.toks] using Xq ks nv vs k (by simpa [V.rem,V.toks] using h)
 | .agg vs,k,h=>by simpa [V.toks] using Xq ks nv vs k (by simpa [V.rem,V.toks] using h)
 | .fn g fs vs,k,h=>by
   simp only [V.rem,V.toks,List.mem_append] at h ⊢
   rcases h with h | h
   · exact (Xq ks nv fs k h).imp .inl id
   · exact (Xq ks nv vs k h).imp .inr id
 | .ref t i q c,k,h=>by
   have ih:=Kp ks nv c k
   cases t with
   | sh=>simp [V.rem,V.toks] at h
   | nl=>
     simp only [V.rem] at h
     split at h
     · simp [V.toks] at h
     · simp only [V.toks] at h ⊢;exact ih h
   | «at» r p=>
     simp only [V.rem] at h
     split at h
     · simp [V.toks] at h
     · simp only [V.toks,List.mem_cons] at h ⊢
       rcases h with rfl | h
       · exact .inl (.inl rfl)
       · exact (ih h).imp .inr id
   | bx r=>
     simp only [V.rem] at h
     split at h
     · simp [V.toks] at h
     · simp only [V.toks,List.mem_cons] at h ⊢
       rcases h with rfl | h
       · exact .inl (.inl rfl)
       · exact (ih h).imp .inr id
 | .sl t g lo xs,k,h=>by
   have ih:=Xq ks nv xs k
   cases t with
   | sh=>simp [V.rem,V.toks] at h
   | nl=>
     simp only [V.rem] at h
     split at h
     · exact .inr (KK h)
     · simp only [V.toks] at h ⊢
       by_cases hg:g.flat=true
       · simp [hg] at h
       · simp only [hg,Bool.false_eq_true,if_false] at h ⊢;exact ih h
   | «at» r p=>
     simp only [V.rem] at h
     split at h
     · exact .inr (KK h)
     · simp only [V.toks,List.mem_cons] at h ⊢
       rcases h with rfl | h
       · exact .inl (.inl rfl)
       · by_cases hg:g.flat=true
         · simp [hg] at h
         · simp only [hg,Bool.false_eq_true,if_false] at h ⊢;exact (ih h).imp .inr id
   | bx r=>
     simp only [V.rem] at h
     split at h
     · exact .inr (KK h)
     · simp only [V.toks,List.mem_cons] at h ⊢
       rcases h with rfl | h
       · exact .inl (.inl rfl)
       · by_cases hg:g.flat=true
         · simp [hg] at h
         · simp only [hg,Bool.false_eq_true,if_false] at h ⊢;exact (ih h).imp .inr id
theorem Xq (ks:List Tok) (nv:V):∀ vs:List V,∀ k∈V.tokss (V.rems ks nv vs),k∈V.tokss vs∨k∈nv.toks
 | [],k,h=>by simp [V.rems,V.tokss] at h
 | v :: vs,k,h=>by
   simp only [V.rems,V.tokss,List.mem_append] at h ⊢
   rcases h with h | h
   · exact (Kp ks nv v k h).imp .inl id
   · exact (Xq ks nv vs k h).imp .inr id
end
theorem Inv.mark (h:Inv w0 S0 n s a w S τ) {ks:List Tok} (hks:∀ k∈ks,(∃ t,k∈(s t).toks)∧∀ r,k≠.bx r) {w':World} (hb:Bel (fun b=>w.heap.size≤b∨∃ k∈ks,(τ k).b=b) w w') {x:Nat} {nv:V} (hx:(s x).ok=true)
    (hnv:nv = .dead∨(∀ vs,nv≠.tup vs)∧(∀ k∈nv.toks,k∈(s x).toks)∧zu w' S τ nv (a.eval (.tmp x))) :
    Inv w0 S0 n (fun t=>V.rem ks nv (s t)) a w' S τ:=by
 have hnt:∀ k∈nv.toks,k∈(s x).toks:=by
  intro k hk
  rcases hnv with rfl | hnv
  · simp [V.toks] at hk
  · exact hnv.2.1 k hk
 have key:∀ t k,k∈(V.rem ks nv (s t)).toks→k∈(s t).toks∨k∈(s x).toks:=fun t k hk=>(Kp ks nv _ k hk).imp id (hnt k)
 have key':∀ t k,k∈(V.rem ks nv (s t)).toks→∃ t0,k∈(s t0).toks:=fun t k hk=>(key t k hk).elim (fun h=>⟨t,h⟩) fun h=>⟨x,h⟩
 have hfree:∀ b,b < w.heap.size→(∀ k∈ks,(τ k).b≠b)→w'.heap[b]?=w.heap[b]?:=by
  intro b hlt hne
  refine hb.block b hlt ?_
  rintro (h2 | ⟨k,hk,e⟩)
  · omega
  · exact hne k hk e
 have hR:Rem w w' S τ ks nv:=by
  refine ⟨?_,hb.rows,?_⟩
  · intro b hb'
    refine hfree b (h.sbd b hb') ?_
    intro k hk e2
    obtain ⟨⟨t0,h0⟩,_⟩:=hks k hk
    exact (h.own t0 k h0).2.2 (e2 ▸ hb')
  · intro t g ys e
    rcases hnv with rfl | hnv
    · simp [V.sub] at e
    · exact ziB hnv.2.2 hnv.1 e
 have hkb:∀ k,ks.contains k=true→∀ r,k≠.bx r:=fun k hk=>(hks k (by simpa using hk)).2
 have hlin:∀ r v,V.rem ks nv (s r) = .lin v→∃ u,s r = .lin u:=by
  intro r v hl
  cases hv:s r with
  | lin u=>exact ⟨u,rfl⟩
  | sl t g lo xs=>rw [hv] at hl;cases t <;> simp only [V.rem] at hl <;> (try split at hl) <;> (try unfold Mq at hl) <;> (try split at hl) <;> (try split at hl) <;> cases hl
  | ref t i q c=>rw [hv] at hl;cases t <;> simp only [V.rem] at hl <;> (try split at hl) <;> cases hl
  | _=>rw [hv] at hl;simp [V.rem] at hl
 have hgone:∀ r,V.rem ks nv (s r) = .gone→s r = .gone:=by
  intro r hl
  cases hv:s r with
  | gone=>rfl
  | sl t g lo xs=>rw [hv] at hl;cases t <;> simp only [V.rem] at hl <;> (try split at hl) <;> (try unfold Mq at hl) <;> (try split at hl) <;> (try split at hl) <;> cases hl
  | ref t i q c=>rw [hv] at hl;cases t <;> simp only [V.rem] at hl <;> (try split at hl) <;> cases hl
  | _=>rw [hv] at hl;simp [V.rem] at hl
 refine ⟨?_,h.size,h.defers,?_,?_,?_,h.sfr,h.s0,h.below.trans (hb.mono ?_),?_,?_,h.small,fun t k hk=>by obtain ⟨t0,h0⟩:=key' t k hk;exact h.pin t0 k h0⟩
 · intro t
   show zu w' S τ (V.rem ks nv (s t)) _
   refine Nj hR hkb _ _ (h.told t) ?_
   intro k hk hc
   refine hfree _ (h.own t k hk).2.1 ?_
   intro k' hk' e2
   obtain ⟨⟨t0,h0⟩,_⟩:=hks k' hk'
   have:=h.inj t0 t k' k h0 hk e2
   subst this
   have:ks.contains k'=true:=by simpa using hk'
   rw [this] at hc;cases hc
 · intro t k hk
   obtain ⟨t0,h0⟩:=key' t k hk
   have h2:=h.own t0 k h0
   exact ⟨h2.1,Nat.lt_of_lt_of_le h2.2.1 hb.size,h2.2.2⟩
 · intro t t' k k' hk hk' e
   obtain ⟨t0,h0⟩:=key' t k hk
   obtain ⟨t0',h0'⟩:=key' t' k' hk'
   exact h.inj t0 t0' k k' h0 h0' e
 · intro b hb'
   exact Nat.lt_of_lt_of_le (h.sbd b hb') hb.size
 · rintro b (h2 | ⟨k,hk,rfl⟩)
   · exact w0.up _ (Nat.le_trans h.below.size h2)
   · obtain ⟨⟨t0,h0⟩,_⟩:=hks k hk;exact (h.own t0 k h0).1
 · intro r v t k hl ht hk
   obtain ⟨u,hu⟩:=hlin r v hl
   rcases key t k hk with h0 | h0
   · exact h.lin r u t k hu ht h0
   · exact h.lin r u x k hu (by rintro rfl;rw [hu] at hx;simp [V.ok] at hx) h0
 · intro r t k hg hk
   obtain ⟨t0,h0⟩:=key' t k hk
   exact h.gone r t0 k (hgone r hg) h0
theorem MC:∀ {xs:List Operand} {ts:List TypeId} {os:List O} {vs:List V},UQ P xs ts=some os→Zd s os=some vs→Lx w S τ s a→z6 w S τ vs (xs.map a.eval)
 | [],ts,os,vs,hc,hr,ht=>by
   simp [UQ] at hc;subst hc
   simp [Zd] at hr;subst hr
   simp [z6]
 | x :: xs,ts,os,vs,hc,hr,ht=>by
   simp only [UQ] at hc
   split at hc
   · rename_i o os' ho hos
     simp only [Option.some.injEq] at hc;subst hc
     simp only [Zd] at hr
     split at hr
     · rename_i v vs' hv hvs
       simp only [Option.some.injEq] at hr;subst hr
       simp only [z6,List.map_cons]
       exact ⟨_,_,rfl,(xd ho ht hv).1,MC hos hvs ht⟩
     · cases hr
   · cases hc
theorem Inv.growB (h:Inv w0 S0 n s a w S τ) {w':World} {S' B:Nat→Prop} (hb:Bel (fun b=>w.heap.size≤b∨B b) w w')
    (hB:∀ b,B b→b < w.heap.size∧¬ S b∧w0.N b∧∀ t k,k∈(s t).toks→(τ k).b≠b) (hS1:∀ b,S' b→b < w'.heap.size∧(w.heap.size≤b∨B b)) :
    Inv w0 S0 n s a w' (fun b=>S b∨S' b) τ:=by
 have hsz:=hb.size
 have hfree:∀ b,b < w.heap.size→¬ B b→w'.heap[b]?=w.heap[b]?:=by
  intro b h1 h2
  refine hb.block b h1 ?_
  rintro (h3 | h3)
  · omega
  · exact h2 h3
 have hSB:∀ b,S b→¬ B b:=fun b h1 h2=>(hB b h2).2.1 h1
 have hTB:∀ t k,k∈(s t).toks→¬ B (τ k).b:=fun t k hk h2=>(hB _ h2).2.2.2 t k hk rfl
 refine ⟨?_,h.size,h.defers,?_,h.inj,?_,?_,fun b hb=>.inl (h.s0 b hb),h.below.trans (hb.mono ?_),h.lin,h.gone,h.small,h.pin⟩
 · intro t
   exact xP (w:=w) (τ:=τ) (fun b hb'=>⟨.inl hb',hfree b (h.sbd b hb') (hSB b hb')⟩) _ _ (h.told t) (fun k hk=>⟨rfl,hfree _ (h.own t k hk).2.1 (hTB t k hk)⟩)
 · intro t k hk
   have h1:=h.own t k hk
   refine ⟨h1.1,by omega,?_⟩
   rintro (hs | hs)
   · exact h1.2.2 hs
   · rcases (hS1 _ hs).2 with h2 | h2
     · omega
     · exact hTB t k hk h2
 · rintro b (hs | hs)
   · have:=h.sbd b hs;omega
   · exact (hS1 b hs).1
 · rintro b (hs | hs)
   · exact h.sfr b hs
   · rcases (hS1 b hs).2 with h1 | h1
     · exact .inr (w0.up _ (Nat.le_trans h.below.size h1))
     · exact .inr (hB _ h1).2.2.1
 · rintro b (h1 | h1)
   · exact w0.up _ (Nat.le_trans h.below.size h1)
   · exact (hB _ h1).2.2.1
theorem zka {op:Op} {ty:TypeId} {f:O} {as:List O} (h:cX P op ty=some (.call f as)):∃ fo args argTypes,op = .call { callee:=.value fo,args,argTypes }∧cO .s fo=some f∧UQ P args.toList argTypes.toList=some as:=by
 unfold cX at h
 split at h
 all_goals first
  | (rename_i fo args argTypes
     split at h
     · rename_i f' as' h1 h2
       simp only [Option.some.injEq,X.call.injEq] at h
       obtain ⟨rfl,rfl⟩:=h
       exact ⟨fo,args,argTypes,rfl,h1,h2⟩
     · cases h;done)
  | (exfalso;simp only [Option.map_eq_some_iff] at h;obtain ⟨_,_,h⟩:=h;cases h;done)
  | (exfalso;repeat' split at h
     all_goals first
      | (cases h;done)
      | (simp only [Option.map_eq_some_iff] at h;obtain ⟨_,_,h⟩:=h;cases h;done))
end
end Go.Zq
namespace Go.Zq
section
variable {P:Program} {w0:Ori} {S0:Nat→Prop} {n:Nat} {s s':Nat→V} {a:Act} {w:World} {S:Nat→Prop} {τ:Tok→Blk}
theorem Uv {z:V} (k:Nat):∀ x∈List.replicate k z,x.shape=z.shape:=by
 intro x hx;rw [List.eq_of_mem_replicate hx]
theorem Xb {z:V} (h:z.toks=[]):∀ k,V.tokss (List.replicate k z)=[]
 | 0=>rfl
 | k + 1=>by simp [List.replicate_succ,V.tokss,h,Xb h k]
theorem ztN {op:Op} {ty:TypeId} {m:O} {z z0:V} (h:cX P op ty=some (.mk m z z0)):∃ t mm k e,op = .makeSlice t mm k∧P.underlying t=some (.slice e)∧cO .s mm=some m∧LP mm k=true∧Md P e=some z0∧z=z0.erase:=by
 unfold cX at h
 split at h
 all_goals first
  | (rename_i t mm k
     split at h
     · rename_i e m' hu hm
       split at h
       · rename_i hs
         simp only [Option.map_eq_some_iff,X.mk.injEq] at h
         obtain ⟨z1,h1,rfl,rfl,rfl⟩:=h
         exact ⟨t,mm,k,e,rfl,hu,hm,hs,h1,rfl⟩
       · cases h
     · cases h;done)
  | (exfalso;simp only [Option.map_eq_some_iff] at h;obtain ⟨_,_,h⟩:=h;cases h;done)
  | (exfalso;repeat' split at h
     all_goals first
      | (cases h;done)
      | (simp only [Option.map_eq_some_iff] at h;obtain ⟨_,_,h⟩:=h;cases h;done))
theorem zg5 {D:Den} {σ:Sig} {o:Oper} {x:O} {z z0 zz zz':V} (hc:cX P o.op o.type=some (.mk x z z0)) (hzz:zz=z∨zz=z0) (hI:Inv w0 S0 n s a w S τ) (hd:∀ k,o.dst=some k→k < n) {l:Bool} (hst:yk D σ s o.dst l (.mk x zz zz')=some s')
    {K:Act→World→Prop} {Q:Exit→Act→World→Prop} (hK:zao w0 S0 n s' K):o.wp P a w K Q:=by
 obtain ⟨t,m,k,e,hop,hu,hm,hsame,hz,rfl⟩:=ztN hc
 simp only [yk] at hst
 split at hst
 · rename_i d kk mm hdst hrd
   split at hst
   · rename_i hg
     split at hst
     · rename_i hmm
       simp only [Option.some.injEq] at hst;subst hst
       obtain ⟨info,zv,hi,hzv,hcz,hsz,hzs,hb1,hb2⟩:=W2 hz
       have hsz:info.size=zz.shape.size:=by
        rcases hzz with rfl | rfl
        · rw [ZZ];exact hsz
        · exact hsz
       have hcr:zt w S τ zz zv.cells.toList∧zz.toks=[]:=by
        have h0:=Kn (w:=w) (S:=S) (τ:=τ) z0 _ hcz
        rcases hzz with rfl | rfl
        · exact ⟨vL (fun _ h=>h) _ _ h0.1 (by rw [h0.2];intro k hk;cases hk),YM _⟩
        · exact h0
       have hev:=Yt (xd hm hI.told hrd).1
       obtain ⟨k',hev'⟩:=ziT hsame hev
       have hrun:=Nn (P:=P) (w:=w) (k:=kk) (k':=k') hu hi hzv hmm.1 hmm.2 (by omega) hzs.symm
       refine XZ (c:=.slice (some ⟨w.heap.size,0,none⟩) mm.toNat mm.toNat) (w':=Y8 w (Zw zv.cells (mm.toNat * info.size)) e) (by simp [execOp,hop,hev,hev',hrun]) ?_
       have hnew:=hI.newList (hd d hdst) hg (g:=zz.shape) (xs:=List.replicate mm.toNat zz) (arr:=Zw zv.cells (mm.toNat * info.size)) e (cap:=mm.toNat) (Uv _) (by simp) (by simp [Zw,hsz]) ?_ (by rw [Xb hcr.2];intro k hk;cases hk) l
       · rw [hdst]
         simp only [List.length_replicate] at hnew
         exact hK _ _ _ _ hnew
       · simp only [List.length_replicate]
         refine Wb hcr.1 _ _ fun i=>?_
         by_cases hz0:zv.cells.size=0
         · have:zz.shape.size=0:=by omega
           rw [this]
           simp
         · rw [← hsz]
           exact za6 zv.cells _ _ (by omega) (Nat.le_refl _) i
     · cases hst
   · cases hst
 · cases hst
theorem zbR {D:Den} {σ:Sig} (hF:zr P D σ) {o:Oper} {x:X} (hc:cX P o.op o.type=some x) (hI:Inv w0 S0 n s a w S τ) (hd:∀ k,o.dst=some k→k < n) {l:Bool} (hst:yk D σ s o.dst l x=some s')
    (hstore:∀ h y z,x = .store h y z→o.dst=none) {K:Act→World→Prop} {Q:Exit→Act→World→Prop} (hK:zao w0 S0 n s' K):o.wp P a w K Q:=by
 have hc0:=hc
 unfold cX at hc
 split at hc
 · -- alloc
   rename_i e hop
   simp only [Option.map_eq_some_iff] at hc
   obtain ⟨z,hz,rfl⟩:=hc
   simp only [yk] at hst
   split at hst
   · rename_i d hdst
     split at hst
     · rename_i hg
       simp only [Option.some.injEq] at hst;subst hst
       obtain ⟨info,zv,hi,hzv,hcz,_⟩:=W2 hz
       have hcr:=Kn (w:=w) (S:=S) (τ:=τ) z _ hcz
       have hrun:=zgC (P:=P) (w:=w) hi hzv
       refine XZ (c:=.pointer (some ⟨w.heap.size,0,none⟩)) (w':=Y8 w zv.cells e) (by simp [execOp,hop,hrun]) ?_
       rw [hdst]
       exact hK _ _ _ _ (hI.newBox (hd d hdst) hg e hcr.1 (Xr hcr.2))
     · cases hst
   · cases hst
 · -- box
   rename_i e x' hop
   simp only [Option.map_eq_some_iff] at hc
   obtain ⟨x'',hx,rfl⟩:=hc
   simp only [yk] at hst
   split at hst
   · rename_i d v hdst hrd
     split at hst
     · rename_i hg
       split at hst
       · rename_i hm
         simp only [Option.some.injEq] at hst;subst hst
         have r:=xd hx hI.told hrd
         refine XZ (c:=.pointer (some ⟨w.heap.size,0,none⟩)) (w':=Y8 w (a.eval x').cells e) (by simp [execOp,hop,zjX]) ?_
         rw [hdst]
         exact hK _ _ _ _ (hI.newBox (hd d hdst) hg e (Uk r.1 (QA hm) (LX hm) (Kj hm)) r.2.1)
       · cases hst
     · cases hst
   · cases hst
 · -- makeSlice
   have hx:∃ m0 z z0,x = .mk m0 z z0:=by
    split at hc
    · split at hc
      · simp only [Option.map_eq_some_iff] at hc;obtain ⟨z,_,rfl⟩:=hc;exact ⟨_,_,_,rfl⟩
      · cases hc
    · cases hc
   obtain ⟨m0,z,z0,rfl⟩:=hx
   exact zg5 hc0 (.inl rfl) hI hd hst hK
 · -- buildSlice
   rename_i t len ps hop
   split at hc
   · rename_i e hu
     split at hc
     · rename_i z hz
       split at hc
       · rename_i ps' hps
         split at hc
         · rename_i hlen
           simp only [Option.some.injEq] at hc;subst hc
           simp only [yk] at hst
           split at hst
           · rename_i d xs hdst hbld
             split at hst
             · rename_i hg
               simp only [Option.some.injEq] at hst;subst hst
               obtain ⟨info,zv,hi,hzv,hcz,hsz,hzs,hb1,hb2⟩:=W2 hz
               have hcr:=Kn (w:=w) (S:=S) (τ:=τ) z _ hcz
               have hzr:zZ w S τ (List.replicate len z) (Zw zv.cells (len * z.shape.size)).toList:=by
                refine Wb hcr.1 _ _ fun i=>?_
                by_cases hz0:zv.cells.size=0
                · have:z.shape.size=0:=by omega
                  rw [this];simp [Zw]
                · exact Lq zv.cells _ i (by omega)
               obtain ⟨cells',hfill,hrel,hshapes,htk⟩:=M8 _ _ ps.toList ps' (List.replicate len z) xs (Zw zv.cells (len * z.shape.size)) hps hbld (by
                intro i u hu
                rw [List.getElem?_replicate] at hu
                split at hu
                · simp at hu;subst hu;exact ⟨_,rfl⟩
                · cases hu) hI.told hzr
               have hxs:∀ x∈xs,x.shape=z.shape:=YO hshapes (Uv _)
               have hxl:xs.length=len:=by
                have:=congrArg List.length hshapes
                rw [WM,WM] at this
                simpa using this
               have hcl:cells'.size=len * z.shape.size:=by
                have:=WI _ _ _ _ _ hrel
                rw [ZK xs hxs,hxl] at this
                simpa using this
               have hzvr:(zeroValue e).run P w = .ok zv w:=by simp [zeroValue,typeInfo,hi,hzv]
               have hrun:(Instr.buildSlice t len (ps.map fun (i,x)=>(i,a.eval x))).run P w = .ok (.slice (some ⟨w.heap.size,0,none⟩) len len) (Y8 w cells' e):=by
                have hl:(ps.map fun (i,x)=>(i,a.eval x)).toList=ps.toList.map fun x=>(x.1,a.eval x.2):=by simp
                have hng:¬ (len * info.size > 2 ^ 24):=by rw [hsz];omega
                have hsr:=vd (P:=P) (t:=e) (n:=info.size) (by simp [vg,hi]) w
                simp only [Instr.buildSlice,Sem.run_bind,run_underlying hu,Result.andThen_ok,hsr,Sem.run_ite,hng,if_false,Sem.run_pure,hl]
                by_cases h0:len * info.size=0
                · simp only [h0,if_true]
                  have hf0:Instr.fill (fun i=>some (i * info.size,info.size)) ((Array.range 0).map (fun x=>(#[]:Array Value)[x % (#[]:Array Value).size]!)) (ps.toList.map fun x=>(x.1,a.eval x.2))=some cells':=by
                   rw [← hfill]
                   rw [hsz] at h0 ⊢
                   rw [h0]
                   have er:Array.range 0=#[]:=rfl
                   simp [Zw,er]
                  rw [hf0]
                  simp [newRow,Y8]
                · simp only [h0,if_false,hzvr,Result.andThen_ok]
                  have hf1:Instr.fill (fun i=>some (i * info.size,info.size)) ((Array.range (len * info.size)).map (fun x=>zv.cells[x % zv.cells.size]!)) (ps.toList.map fun x=>(x.1,a.eval x.2))=some cells':=by
                   rw [← hfill,hsz];rfl
                  rw [hf1]
                  simp [newRow,Y8]
               refine XZ (c:=.slice (some ⟨w.heap.size,0,none⟩) len len) (w':=Y8 w cells' e) (by simp [execOp,hop,hrun]) ?_
               have hnew:=hI.newList (hd d hdst) hg (g:=z.shape) (xs:=xs) (arr:=cells') e (cap:=len) hxs (by omega) (by omega) (by rw [List.take_of_length_le (by simp;rw [hxl];omega)];exact hrel) (by
                intro k hk
                rcases htk k hk with h | h
                · rw [Xb hcr.2] at h;cases h
                · exact h) l
               rw [hdst]
               rw [hxl] at hnew
               exact hK _ _ _ _ hnew
             · cases hst
           · cases hst
         · cases hc
       · cases hc
     · cases hc
   · cases hc
 · -- store
   rename_i t x' y' hop
   split at hc
   · rename_i h x'' y'' hh hx hy
     split at hc
     · rename_i hsz
       simp only [Option.some.injEq] at hc;subst hc
       simp only [yk] at hst
       split at hst
       · rename_i tk i q c v hrd hrd2
         split at hst
         · rename_i hcond
           simp only [Option.some.injEq] at hst;subst hst
           obtain ⟨h1,h2,h3,h4,h5,h6⟩:=hcond
           simp only [beq_iff_eq] at hsz
           have r1:=xd hx hI.told hrd
           have r2:=xd hy hI.told hrd2
           have hv:=Uk r2.1 (QA h3) (LX h3) (Kj h3)
           have e4:=Sh.beq_eq _ _ h4
           have e5:=Sh.beq_eq _ _ h5
           obtain ⟨b,off,w',ex,hrun,hI'⟩:=hI.store (P:=P) r1.1 r1.2.1 ⟨h1,h2⟩ hv r2.2.1 (by rw [e4,e5]) (.inl (by simpa using h6))
           have hl:=wv _ _ _ _ _ hv
           have hex:(execOp a.eval o).run P w = .ok .skip w':=by
            have hsr:=vd hsz w
            have hne:¬ ((a.eval y').cells.size≠h.size):=by simp at hl ⊢;rw [hl,e4]
            simp only [execOp,hop,Sem.run_bind,Instr.storeAt,ex,Instr.sureAddr,Sem.run_pure,Result.andThen_ok,storeVar,hsr,Sem.run_ite,hne,if_false,hrun]
           simp only [Oper.wp,hex,Oper.upon]
           rw [hstore _ _ _ rfl]
           exact hK _ _ _ _ hI'
         · cases hst
       · cases hst
     · cases hc
   · cases hc
 · -- append
   rename_i args argTypes hop
   split at hc
   · rename_i x' y' ta tb hargs htys
     split at hc
     · rename_i e e2 x'' y'' hua hub hx hy
       simp only [Option.map_eq_some_iff] at hc
       obtain ⟨z,hz,rfl⟩:=hc
       simp only [yk] at hst
       split at hst
       · rename_i d s1 t g lo xs t2 g2 lo2 ys hdst hsp hyr
         split at hst
         · rename_i hg
           split at hst
           · rename_i hcond
             simp only [Bool.and_eq_true,Bool.or_eq_true,Bool.not_eq_true',decide_eq_true_eq,List.isEmpty_iff] at hcond
             simp only [Option.some.injEq] at hst;subst hst
             obtain ⟨⟨⟨hg1,hg2⟩,htt⟩,hlen⟩:=hcond
             have e1:=Sh.beq_eq _ _ hg1
             have e2':=Sh.beq_eq _ _ hg2
             subst e1;subst e2'
             obtain ⟨info,zv,hi,hzv,hcz,hsz,hzs,hb1,hb2⟩:=W2 hz
             have ea:args=#[x',y']:=by apply Array.ext';simpa using hargs
             have et:argTypes=#[ta,tb]:=by apply Array.ext';simpa using htys
             subst ea;subst et
             obtain ⟨c,w',τ',hrun,hI'⟩:=hI.append (P:=P) (ty:=o.type) hx hy hsp hyr (by simpa using htt) (hd d hdst) hg l hua hub hi hzv hsz hzs ⟨hb1,hb2⟩ hlen
             refine XZ (c:=c) (w':=w') ?_ ?_
             · simp only [execOp,hop,resolve,Sem.run_bind,Sem.run_pure,Result.andThen_ok,invoke,builtin,List.map_toArray,List.map_cons,List.map_nil,hrun]
             · rw [hdst];exact hK _ _ _ _ hI'
           · cases hst
         · cases hst
       · cases hst
     · cases hc
   · cases hc
 · -- copy
   rename_i args argTypes hop
   split at hc
   · rename_i x' y' ta tb hargs htys
     split at hc
     · rename_i e x'' y'' hua hx hy
       split at hc
       · rename_i hsz
         simp only [beq_iff_eq] at hsz
         simp only [Option.some.injEq] at hc;subst hc
         simp only [yk] at hst
         split at hst
         · rename_i r p h lo xs t2 h2 lo2 ys hxr hyr
           split at hst
           · rename_i hcond
             simp only [Bool.and_eq_true] at hcond
             have e1:=Sh.beq_eq _ _ hcond.1
             have e2:=Sh.beq_eq _ _ hcond.2
             subst e1;subst e2
             simp only [Option.some.injEq] at hst;subst hst
             have ea:args=#[x',y']:=by apply Array.ext';simpa using hargs
             have et:argTypes=#[ta,tb]:=by apply Array.ext';simpa using htys
             subst ea;subst et
             have r1:=xd hx hI.told hxr
             have r2:=xd hy hI.told hyr
             obtain ⟨base,cap,ex,hle,hsx,_,_⟩:=Zk r1.1
             obtain ⟨base2,cap2,ey,hle2,hsy,_,_⟩:=Zk r2.1
             have hmin:Nat.min ys.length xs.length≤ys.length:=Nat.min_le_left _ _
             obtain ⟨cs,hcs,hrel⟩:=zdo (P:=P) (k:=Nat.min ys.length xs.length) r2.1 rfl hmin
             have htake:ys.take (Nat.min ys.length xs.length)=ys.take xs.length:=by
              rcases Nat.le_total ys.length xs.length with hq | hq
              · rw [show Nat.min ys.length xs.length=ys.length from Nat.min_eq_left hq,List.take_of_length_le (Nat.le_refl _),List.take_of_length_le hq]
              · rw [show Nat.min ys.length xs.length=xs.length from Nat.min_eq_right hq]
             rw [htake] at hrel
             obtain ⟨t0,rfl,hst0⟩:∃ t0,x'' = .t t0∧s t0 = .sl (.at r p) .s lo xs:=by
              cases x'' with
              | t t0=>
                refine ⟨t0,rfl,?_⟩
                unfold O.rd at hxr
                split at hxr
                · simpa [O.ev] using hxr
                · cases hxr
              | k u=>
                exfalso
                cases x' with
                | tmp m=>simp [cO] at hx
                | const v=>
                  simp only [cO,Option.map_eq_some_iff] at hx
                  obtain ⟨u',hu',e'⟩:=hx
                  simp only [O.k.injEq] at e';subst e'
                  have:=(zbm (w:=w) (S:=S) (τ:=τ) hu').2.1
                  unfold O.rd at hxr
                  split at hxr
                  · simp only [O.ev,Option.some.injEq] at hxr
                    rw [hxr] at this;simp [V.toks] at this
                  · cases hxr
                | func f=>simp [cO] at hx;rw [← hx] at hxr;simp [O.rd,O.ev,V.ok] at hxr
                | global f=>simp [cO] at hx
             have hev:a.eval x'=a.eval (.tmp t0):=by
              cases x' with
              | tmp m=>simp [cO] at hx;subst hx;rfl
              | const v=>simp only [cO,Option.map_eq_some_iff] at hx;obtain ⟨u',_,e'⟩:=hx;cases e'
              | func f=>simp [cO] at hx
              | global f=>simp [cO] at hx
             obtain ⟨w',hrun,hI'⟩:=hI.copyRun (P:=P) (ys.take xs.length) cs (j:=0) hst0 (by simp;omega) hrel (fun u hu=>hsy u (List.mem_of_mem_take hu)) base xs.length cap (by rw [← hev];exact ex)
             refine XZ (c:=.int .i64 (min ys.length xs.length:Nat)) (w':=w') ?_ ?_
             · have hsr:(sizeOf e).run P w = .ok 1 w:=vd hsz w
               simp only [execOp,hop,resolve,Sem.run_bind,Sem.run_pure,Result.andThen_ok,invoke,builtin,List.map_toArray,List.map_cons,List.map_nil]
               have hcopy:(Builtin.copy_ #[ta,tb] o.type #[a.eval x',a.eval y']).run P w = .ok (.int .i64 (min ys.length xs.length:Nat)) w':=by
                have hcs':=hcs
                rw [ey] at hcs'
                rw [ex,ey]
                simp only [Builtin.copy_,List.getElem?_toArray,List.getElem?_cons_zero,List.getElem?_cons_succ,Sem.run_bind,run_underlying hua,Result.andThen_ok,hsr,Sem.run_pure,Builtin.lenOf,hcs']
                cases base with
                | none=>simp only at hrun;simp only [Result.ok.injEq,true_and] at hrun;subst hrun;rfl
                | some ad=>simp only at hrun;simp only [Sem.run_bind,hrun,Result.andThen_ok];rfl
               rw [hcopy];rfl
             · exact hK _ _ _ _ (hI'.putVal (by simp only [zu]) (Xr rfl) rfl o.dst hd)
           · cases hst
         · cases hst
       · cases hc
     · cases hc
   · cases hc
 · -- call
   rename_i f args argTypes hop
   split at hc
   · rename_i f' as hf has
     simp only [Option.some.injEq] at hc;subst hc
     exact zb6 hF hop hf has hI hd (ob:=false) hst hK
   · cases hc
 · -- values
   simp only [Option.map_eq_some_iff] at hc
   obtain ⟨A,hA,rfl⟩:=hc
   simp only [yk,Option.map_eq_some_iff] at hst
   obtain ⟨v,hv,rfl⟩:=hst
   obtain ⟨c,h1,h2,h3,h4⟩:=zwo (P:=P) (o:=o) hA hv hI.told
   exact XZ h1 (hK _ _ _ _ (hI.putVal h2 h3 h4 o.dst hd))
end
end Go.Zq
namespace Go.Zq
theorem zkQ {K:List Tok} {v u:V} (h:V.frz K v = .lin u):∃ u',v = .lin u':=by
 cases v with
 | lin u'=>exact ⟨u',rfl⟩
 | sl t g lo xs=>cases t <;> simp only [V.frz] at h <;> (repeat' split at h) <;> cases h
 | ref t i q c=>cases t <;> simp only [V.frz] at h <;> (repeat' split at h) <;> cases h
 | _=>simp [V.frz] at h
theorem zhW {K:List Tok} {v:V} (h:V.frz K v = .gone):v = .gone:=by
 cases v with
 | gone=>rfl
 | sl t g lo xs=>cases t <;> simp only [V.frz] at h <;> (repeat' split at h) <;> cases h
 | ref t i q c=>cases t <;> simp only [V.frz] at h <;> (repeat' split at h) <;> cases h
 | _=>simp [V.frz] at h
section
variable {P:Program} {w0:Ori} {S0:Nat→Prop} {n:Nat} {s s':Nat→V} {a:Act} {w:World} {S:Nat→Prop} {τ:Tok→Blk}
theorem Inv.frz (h:Inv w0 S0 n s a w S τ) {K:List Tok} (hK:∀ k∈K,∃ t,k∈(s t).toks):Inv w0 S0 n (fun t=>V.frz K (s t)) a w (fun b=>S b∨∃ k∈K,(τ k).b=b) τ:=by
 have hn:K.contains .nl=false:=by
  cases hc:K.contains .nl with
  | false=>rfl
  | true=>
    obtain ⟨t,ht⟩:=hK .nl (by simpa using hc)
    exact absurd rfl (ZE _ _ ht).2
 refine ⟨?_,h.size,h.defers,?_,?_,?_,?_,fun b hb=>.inl (h.s0 b hb),h.below,?_,?_,h.small,fun t k hk=>h.pin t k (ZD K _ k hk).1⟩
 · intro t
   exact Mr (fun b hb=>.inl hb) (fun k hk=>.inr ⟨k,by simpa using hk,rfl⟩) hn _ _ (h.told t)
 · intro t k hk
   obtain ⟨h1,h2⟩:=ZD K _ k hk
   have h3:=h.own t k h1
   refine ⟨h3.1,h3.2.1,?_⟩
   rintro (hs | ⟨k',hk',e⟩)
   · exact h3.2.2 hs
   · obtain ⟨t',ht'⟩:=hK k' hk'
     have:=h.inj t' t k' k ht' h1 e
     subst this
     have:K.contains k'=true:=by simpa using hk'
     rw [this] at h2;cases h2
 · intro t t' k k' hk hk' e
   exact h.inj t t' k k' (ZD K _ k hk).1 (ZD K _ k' hk').1 e
 · rintro b (hb | ⟨k,hk,rfl⟩)
   · exact h.sbd b hb
   · obtain ⟨t,ht⟩:=hK k hk;exact (h.own t k ht).2.1
 · rintro b (hb | ⟨k,hk,rfl⟩)
   · exact h.sfr b hb
   · obtain ⟨t,ht⟩:=hK k hk;exact .inr (h.own t k ht).1
 · intro r v t k hl ht hk
   obtain ⟨u,hu⟩:=zkQ hl
   exact h.lin r u t k hu ht (ZD K _ k hk).1
 · intro r t k hg hk
   exact h.gone r t k (zhW hg) (ZD K _ k hk).1
theorem Kr (ht:Lx w S τ s a):∀ (bs:List Nat) (e:V) (c:Value),zu w S τ e c→zu w S τ (Zy s bs e) c
 | [],e,c,h=>by simpa [Zy] using h
 | b :: bs,e,c,h=>by
   cases e with
   | ref t0 i q c0=>
     cases t0 with
     | bx r=>
       simp only [Zy]
       split
       · rename_i r' i' q' c' hs
         split
         · rename_i he
           obtain ⟨rfl,rfl,rfl⟩:=he
           have h1:=ht b
           rw [hs] at h1
           obtain ⟨b1,off1,arr1,ty1,fz1,e1,hw1,hp1,_⟩:=Za h
           obtain ⟨b2,off2,arr2,ty2,fz2,e2,hw2,hp2,_⟩:=Za h1
           have e3:c=a.eval (.tmp b):=by
            rw [e1,e2]
            simp only [Xa] at hp1 hp2
            obtain ⟨p1,_,o1,p2,p3⟩:=hp1
            obtain ⟨q1,_,o2,q2,q3⟩:=hp2
            rw [p2] at q2
            simp only [Option.some.injEq,Prod.mk.injEq] at q2
            rw [← p1,← q1,p3,q3,q2.1]
           rw [e3];exact h1
         · exact Kr ht bs _ c h
       · exact Kr ht bs _ c h
     | _=>simpa [Zy] using h
   | _=>simpa [Zy] using h
theorem N9 (ht:Lx w S τ s a) (bs:List Nat):∀ (env:List V) (cs:List Value),z6 w S τ env cs→z6 w S τ (env.map (Zy s bs)) cs
 | [],cs,h=>by simpa [z6] using h
 | e :: env,cs,h=>by
   simp only [z6,List.map_cons] at h ⊢
   obtain ⟨c,cs',e1,h1,h2⟩:=h
   exact ⟨c,cs',e1,Kr ht bs e c h1,N9 ht bs env cs' h2⟩
theorem Um {bs:List Nat} {k:Tok} (h:k∈yo s bs):∃ b∈bs,k∈(s b).toks:=by
 unfold yo at h
 exact List.mem_flatMap.1 h
theorem Jj {ks:List Tok} {k x:Tok} (hk:k≠.nl) (h:uJ ks k=some x):∃ j:Nat,ks[j]?=some k∧x=zb4 j k:=by
 unfold uJ at h
 rw [if_neg hk] at h
 simp only [Option.map_eq_some_iff] at h
 obtain ⟨j,hj,rfl⟩:=h
 refine ⟨j,?_,rfl⟩
 rw [List.findIdx?_eq_some_iff_getElem] at hj
 obtain ⟨hlt,h1,_⟩:=hj
 rw [List.getElem?_eq_getElem hlt]
 simpa using h1
theorem zgF {ks:List Tok} {k k' x:Tok} (hk:k≠.nl∧k≠.sh) (hk':k'≠.nl∧k'≠.sh) (h:uJ ks k=some x) (h':uJ ks k'=some x):k=k':=by
 obtain ⟨j,h1,e1⟩:=Jj hk.1 h
 obtain ⟨j',h2,e2⟩:=Jj hk'.1 h'
 have hj:j=j':=by
  rw [e1] at e2
  cases k <;> cases k' <;> simp [zb4] at e2 hk hk' <;> omega
 subst hj
 rw [h1] at h2
 exact Option.some.inj h2
theorem zgL {ks:List Tok} {k x:Tok} (hk:k≠.nl) (h:uJ ks k=some x):k∈ks:=by
 obtain ⟨j,h1,_⟩:=Jj hk h
 exact List.mem_of_getElem? h1
theorem XQ {ks:List Tok} {k x:Tok} (hk:k≠.nl∧k≠.sh) (h:uJ ks k=some x):x≠.nl∧x.pinned=true∧((∃ r p r' p',k = .at r p∧x = .at r' p')∨∃ r r',k = .bx r∧x = .bx r'):=by
 obtain ⟨j,_,e⟩:=Jj hk.1 h
 subst e
 cases k with
 | nl=>exact absurd rfl hk.1
 | sh=>exact absurd rfl hk.2
 | «at» r p=>exact ⟨by simp [zb4],NW rfl (Nat.le_add_right _ _),.inl ⟨_,_,_,_,rfl,rfl⟩⟩
 | bx r=>exact ⟨by simp [zb4],NW rfl (Nat.le_add_right _ _),.inr ⟨_,_,rfl,rfl⟩⟩
theorem ZQ {ks:List Tok} {k x:Tok} (hx:x≠.nl) (h:XC ks x=some k):k∈ks∧uJ ks k=some x:=by
 unfold XC at h
 rw [if_neg hx] at h
 exact ⟨List.mem_of_find?_eq_some h,by simpa using List.find?_some h⟩
theorem K8 {ks:List Tok} (hks:∀ k∈ks,k≠.nl∧k≠.sh) {k x:Tok} (hk:k≠.nl∧k≠.sh) (h:uJ ks k=some x):XC ks x=some k:=by
 have hx:=(XQ hk h).1
 have hm:=zgL hk.1 h
 cases hb:XC ks x with
 | none=>
   unfold XC at hb
   rw [if_neg hx,List.find?_eq_none] at hb
   exact absurd (by simpa using h) (hb k hm)
 | some k'=>
   obtain ⟨h1,h2⟩:=ZQ hx hb
   rw [zgF hk (hks k' h1) h h2]
def N7 (ks:List Tok) (τ:Tok→Blk):Tok→Blk:=fun k=>match XC ks k with
 | some k'=>τ k'
 | none=>τ k
theorem Yy {ks:List Tok} (hks:∀ k∈ks,k≠.nl∧k≠.sh) {k x:Tok} (hk:k≠.nl∧k≠.sh) (h:uJ ks k=some x):N7 ks τ x=τ k:=by
 unfold N7;rw [K8 hks hk h]
theorem zgl {ks:List Tok} (hks:∀ k∈ks,k≠.nl∧k≠.sh):Lz (uJ ks) τ (N7 ks τ):=by
 refine ⟨?_,?_,rfl⟩
 · intro r p k h
   refine ⟨Yy hks (by simp) h,?_⟩
   rcases (XQ (by simp) h).2.2 with ⟨_,_,r',p',_,e⟩ | ⟨_,_,e,_⟩
   · exact ⟨r',p',e⟩
   · cases e
 · intro r k h
   refine ⟨Yy hks (by simp) h,?_⟩
   rcases (XQ (by simp) h).2.2 with ⟨_,_,_,_,e,_⟩ | ⟨_,r',_,e⟩
   · cases e
   · exact ⟨r',e⟩
theorem zgf {ks:List Tok} (hks:∀ k∈ks,k≠.nl∧k≠.sh):Lz (XC ks) (N7 ks τ) τ:=by
 refine ⟨?_,?_,rfl⟩
 · intro r p k h
   have h1:=ZQ (by simp) h
   refine ⟨(Yy hks (hks k h1.1) h1.2).symm,?_⟩
   rcases (XQ (hks k h1.1) h1.2).2.2 with ⟨r',p',_,_,e,_⟩ | ⟨_,_,_,e⟩
   · exact ⟨r',p',e⟩
   · cases e
 · intro r k h
   have h1:=ZQ (by simp) h
   refine ⟨(Yy hks (hks k h1.1) h1.2).symm,?_⟩
   rcases (XQ (hks k h1.1) h1.2).2.2 with ⟨_,_,_,_,_,e⟩ | ⟨r',_,e,_⟩
   · cases e
   · exact ⟨r',e⟩
theorem Ma {ks:List Tok}:∀ {bs:List Nat} {us:List V} {l:List (Nat×Nat×List Nat×V)},YW s ks bs us=some l →
    (∀ e∈l,∃ b∈bs,∃ c t' c',s b = .ref (.bx e.1) e.2.1 e.2.2.1 c∧V.ref t' e.2.1 e.2.2.1 c'∈us∧XC ks t'=some (.bx e.1)∧e.2.2.2=V.map (XC ks) (.ref t' e.2.1 e.2.2.1 c')) ∧
    ∀ b∈bs,∃ r i q c,s b = .ref (.bx r) i q c∧∃ e∈l,e.1=r∧e.2.1=i∧e.2.2.1=q
 | [],us,l,h=>by
   cases us with
   | nil=>simp only [YW,Option.some.injEq] at h;subst h;exact ⟨fun e he=>(nomatch he),fun b hb=>(nomatch hb)⟩
   | cons u us=>simp [YW] at h
 | b :: bs,[],l,h=>by simp [YW] at h
 | b :: bs,u :: us,l,h=>by
   simp only [YW] at h
   split at h
   · rename_i r i q c t' i' q' c' hs
     split at h
     · rename_i hc
       obtain ⟨hb,rfl,rfl⟩:=hc
       simp only [Option.map_eq_some_iff] at h
       obtain ⟨l',h3,rfl⟩:=h
       obtain ⟨ih1,ih2⟩:=Ma h3
       refine ⟨fun e he=>?_,fun b' hb'=>?_⟩
       · rcases List.mem_cons.1 he with rfl | he
         · exact ⟨b,by simp,c,t',c',hs,by simp,hb,rfl⟩
         · obtain ⟨b1,h1,c1,t1,c2,h4,h5,h6,h7⟩:=ih1 e he
           exact ⟨b1,by simp [h1],c1,t1,c2,h4,by simp [h5],h6,h7⟩
       · rcases List.mem_cons.1 hb' with rfl | hb'
         · exact ⟨r,i',q',c,hs,_,List.mem_cons_self,rfl,rfl,rfl⟩
         · obtain ⟨r1,i1,q1,c1,h4,e,he,h5⟩:=ih2 b' hb'
           exact ⟨r1,i1,q1,c1,h4,e,by simp [he],h5⟩
     · cases h
   · cases h
theorem UG {ks:List Tok} {l:List (Nat×Nat×List Nat×V)} (v:V):(∃ e∈l,∃ c,v = .ref (.bx e.1) e.2.1 e.2.2.1 c∧upG ks l v=e.2.2.2)∨upG ks l v=V.map (Xe ks) v:=by
 unfold upG
 split
 · rename_i r i q c
   split
   · rename_i e he
     have h1:=List.mem_of_find?_eq_some he
     have h2:=List.find?_some he
     simp only [Bool.and_eq_true,beq_iff_eq] at h2
     obtain ⟨rfl,rfl,rfl⟩:=h2
     exact .inl ⟨e,h1,c,rfl,rfl⟩
   · exact .inr rfl
 · exact .inr rfl
theorem zj5 {D:Den} {σ:Sig} (hF:zr P D σ) {o:Oper} {f:O} {as:List O} {bs es:List Nat} {fo:Operand} {args:Array Operand} {argTypes:Array TypeId} (hop:o.op = .call { callee:=.value fo,args,argTypes })
    (hfo:cO .s fo=some f) (has:UQ P args.toList argTypes.toList=some as) (hI:Inv w0 S0 n s a w S τ) (hd:∀ k,o.dst=some k→k < n) {l:Bool} (hst:yk D σ s o.dst l (.callT f as bs es)=some s')
    {K:Act→World→Prop} {Q:Exit→Act→World→Prop} (hK:zao w0 S0 n s' K):o.wp P a w K Q:=by
 simp only [yk,NZ,Option.map_eq_some_iff] at hst
 obtain ⟨p,hst,rfl⟩:=hst
 unfold UR at hst
 split at hst
 case h_2=>cases hst
 rename_i g env vs hrd hvs
 split at hst
 · cases hst
 rename_i hc0
 simp only [Bool.not_eq_true',Bool.not_eq_false,Bool.and_eq_true,List.all_eq_true] at hc0
 obtain ⟨⟨hsub,hone⟩,hes⟩:=hc0
 split at hst
 case h_2=>cases hst
 rename_i r us m al hD hσ
 split at hst
 case isFalse=>cases hst
 rename_i hcond
 simp only [Bool.and_eq_true] at hcond
 simp only [List.isEmpty_iff] at hcond
 obtain ⟨⟨⟨hm,hgm⟩,hru,hrok⟩,hup⟩:=hcond
 have hgm:Nat.ble ZJ g=false:=by simpa using hgm
 have hm:m=Zz:=Nat.eq_of_beq_eq_true hm
 subst hm
 simp only [Option.map_eq_some_iff] at hst
 obtain ⟨lb,hlb,rfl⟩:=hst
 generalize hks:yo s (bs++es)=ks at *
 have hkm:∀ k∈ks,∃ b∈bs++es,k∈(s b).toks:=fun k hk=>Um (hks ▸ hk)
 have hko:∀ k∈ks,k≠.nl∧k≠.sh:=fun k hk=>by
  obtain ⟨b,_,h⟩:=hkm k hk
  exact ⟨(ZE _ k h).2,(ZE _ k h).1⟩
 obtain ⟨hl1,hl2⟩:=Ma hlb
 have hfr:=xd hfo hI.told hrd
 have h1:=hfr.1
 simp only [zu,zt] at h1
 obtain ⟨fst,cap,ef,hfs,henv⟩:=h1
 simp only [List.cons.injEq,and_true] at ef
 have hfst:fst=#[]:=by
  have:fst.toList=[]:=by simpa [wE] using hfs
  exact Array.toList_eq_nil_iff.1 this
 subst hfst
 have hargs:z6 w S τ (vs++env.map (Zy s bs)) (args.map a.eval++cap).toList:=by
  have e:(args.map a.eval++cap).toList=args.toList.map a.eval++cap.toList:=by simp
  rw [e]
  exact Xp _ _ _ _ (MC has hvs hI.told) (N9 hI.told bs _ _ (JO env _ henv hone))
 have hargs':=KE (zgl hko) _ _ hargs
 have hin:∀ k∈V.tokss (V.maps (uJ ks) (vs++env.map (Zy s bs))),∃ k0∈ks,uJ ks k0=some k:=by
  intro k hk
  obtain ⟨k0,h0,e⟩:=YD (uJ ks) rfl _ k hk
  exact ⟨k0,by simpa using hsub k0 h0,e⟩
 obtain ⟨fn,hfn,hbody,hname⟩:=hF.fn _ Zz al hσ
 rw [LL hgm] at hfn
 have hcon:=hF.con _ _ _ Zz al hD hσ
 rw [LL hgm] at hcon
 unfold wn at hcon
 rw [if_neg (by decide),if_neg (by decide),if_pos rfl] at hcon
 have hcall:=hcon r us rfl w S (N7 ks τ) (args.map a.eval++cap) hI.sbd hargs' (by
     intro k hk
     obtain ⟨k0,h0,e⟩:=hin k hk
     obtain ⟨b,_,hb⟩:=hkm k0 h0
     have h3:=hI.own b k0 hb
     rw [Yy hko (hko k0 h0) e]
     exact ⟨(XQ (hko k0 h0) e).2.1,h3.2.1,h3.2.2⟩) (by
     intro k hk k' hk' e
     obtain ⟨k0,h0,e0⟩:=hin k hk
     obtain ⟨k1,h1,e1⟩:=hin k' hk'
     obtain ⟨b,_,hb⟩:=hkm k0 h0
     obtain ⟨b',_,hb'⟩:=hkm k1 h1
     rw [Yy hko (hko k0 h0) e0,Yy hko (hko k1 h1) e1] at e
     have:=hI.inj b b' k0 k1 hb hb' e
     subst this
     rw [e0] at e1
     exact Option.some.inj e1) hru
 have hexec:(execOp a.eval o).run P w = .ok (.enter g (args.map a.eval++cap)) w:=by
  simp only [execOp,hop,resolve,ef,Deferred.ofValue,Sem.run_bind,Sem.run_pure,Result.andThen_ok,invoke,callFunc,run_program,hfn,hname,hbody,Bool.false_eq_true,if_false]
  simp
 simp only [Oper.wp,hexec,Oper.upon]
 refine hcall.mono ?_
 rintro e w' ⟨c,S',rfl,hbel,hrr,hS',hus⟩
 let B:Nat→Prop:=fun b=>∃ k∈ks,(τ k).b=b
 have hinB:∀ b,(∃ k∈V.tokss (V.maps (uJ ks) (vs++env.map (Zy s bs))),(N7 ks τ k).b=b)→B b:=by
  rintro b ⟨k,hk,rfl⟩
  obtain ⟨k0,h0,e⟩:=hin k hk
  exact ⟨k0,h0,by rw [Yy hko (hko k0 h0) e]⟩
 have hbel':Bel (fun b=>w.heap.size≤b∨B b) w w':=hbel.mono fun b h=>h.imp id (hinB b)
 have hnl0:ks.contains .nl=false:=by
  cases hb:ks.contains .nl with
  | false=>rfl
  | true=>exact absurd rfl (hko .nl (by simpa using hb)).1
 have hnl:(fun k:Tok=>ks.contains k) .nl=false:=hnl0
 have hI1:=hI.kill (fun k=>ks.contains k) hnl
 have hkt:∀ t k,k∈(V.map (Xe ks) (s t)).toks→k∈(s t).toks∧k∉ks:=by
  intro t k hk
  have h2:=Jm (p:=fun k=>ks.contains k) hnl hk
  exact ⟨h2.1,by simpa using h2.2⟩
 have hB:∀ b,B b→b < w.heap.size∧¬ S b∧w0.N b∧∀ t k,k∈(XM (fun k=>if ks.contains k then none else some k) s t).toks→(τ k).b≠b:=by
  rintro b ⟨k,hk,rfl⟩
  obtain ⟨b0,_,hb0⟩:=hkm k hk
  have h3:=hI.own b0 k hb0
  refine ⟨h3.2.1,h3.2.2,h3.1,fun t k' hk' e=>?_⟩
  obtain ⟨h4,h5⟩:=hkt t k' hk'
  have:=hI.inj t b0 k' k h4 hb0 e
  subst this
  exact h5 hk
 have hg:=hI1.growB (B:=B) (S':=fun b=>S' b∧(w.heap.size≤b∨B b)) hbel' hB (fun b hb=>⟨(hS' b hb.1).1,hb.2⟩)
 have hSS:∀ b,S' b→S b∨(S' b∧(w.heap.size≤b∨B b)):=by
  intro b hb
  rcases (hS' b hb).2 with h | h | h
  · exact .inl h
  · exact .inr ⟨hb,.inl h⟩
  · exact .inr ⟨hb,.inr (hinB b h)⟩
 have hback:∀ en∈lb,(∃ c1,en.2.2.2 = .ref (.bx en.1) en.2.1 en.2.2.1 c1)∧(∃ cv,zu w' (fun b=>S b∨(S' b∧(w.heap.size≤b∨B b))) τ en.2.2.2 cv)∧∀ k∈en.2.2.2.toks,k∈ks∧¬ S' (τ k).b:=by
  intro en hen
  obtain ⟨b,_,c0,t',c',_,h5,h6,h7⟩:=hl1 en hen
  have hpin:∀ k∈(V.ref t' en.2.1 en.2.2.1 c').toks,k.pinned=true:=by
   have:=List.all_eq_true.1 hup _ h5
   exact fun k hk=>List.all_eq_true.1 this k hk
  obtain ⟨h8,cv,h9⟩:=hus _ h5 hpin
  have h10:=Kk (zgf (τ:=τ) hko) _ _ h9
  have ht':t'≠.nl∧t'≠.sh:=by
   constructor
   · rintro rfl;simp [XC] at h6
   · rintro rfl
     have:=(ZQ (by simp) h6).2
     have h11:=(XQ (hko _ (ZQ (by simp) h6).1) this).2.1
     cases h11
  refine ⟨⟨V.map (XC ks) c',?_⟩,⟨cv,?_⟩,?_⟩
  · rw [h7]
    cases t' with
    | nl=>exact absurd rfl ht'.1
    | sh=>exact absurd rfl ht'.2
    | «at» _ _=>simp only [V.map,h6]
    | bx _=>simp only [V.map,h6]
  · rw [h7]
    exact xP (w:=w') (fun b hb=>⟨hSS b hb,rfl⟩) _ _ h10 (fun k _=>⟨rfl,rfl⟩)
  · intro k hk
    rw [h7] at hk
    obtain ⟨k0,h0,e0⟩:=XU (XC ks) rfl _ k hk
    have hk0:k0≠.nl:=(ZE _ k0 h0).2
    have h15:=ZQ hk0 e0
    refine ⟨h15.1,?_⟩
    have h16:=h8 k0 h0
    rw [Yy hko (hko k h15.1) h15.2] at h16
    exact h16
 have hin2:∀ t k,k∈(upG ks lb (s t)).toks→(k∈ks∧¬ S' (τ k).b)∨(k∈(s t).toks∧k∉ks):=by
  intro t k hk
  rcases UG (ks:=ks) (l:=lb) (s t) with ⟨en,hen,_,_,h⟩ | h
  · rw [h] at hk;exact .inl ((hback en hen).2.2 k hk)
  · rw [h] at hk;exact .inr (hkt t k hk)
 have hin3:∀ t k,k∈(upG ks lb (s t)).toks→∃ t0,k∈(s t0).toks:=by
  intro t k hk
  rcases hin2 t k hk with ⟨h,_⟩ | ⟨h,_⟩
  · obtain ⟨b,_,hb⟩:=hkm k h;exact ⟨b,hb⟩
  · exact ⟨t,h⟩
 have hlin:∀ r u,upG ks lb (s r) = .lin u→∃ u',s r = .lin u':=by
  intro r u hl
  rcases UG (ks:=ks) (l:=lb) (s r) with ⟨en,hen,_,_,h⟩ | h
  · obtain ⟨⟨_,e⟩,_⟩:=hback en hen
    rw [h,e] at hl;cases hl
  · rw [h] at hl;exact zaF hl
 have hgone:∀ r,upG ks lb (s r) = .gone→s r = .gone:=by
  intro r hl
  rcases UG (ks:=ks) (l:=lb) (s r) with ⟨en,hen,_,_,h⟩ | h
  · obtain ⟨⟨_,e⟩,_⟩:=hback en hen
    rw [h,e] at hl;cases hl
  · rw [h] at hl;exact MD hl
 have hfin:Inv w0 S0 n (fun t=>upG ks lb (s t)) a w' (fun b=>S b∨(S' b∧(w.heap.size≤b∨B b))) τ:=by
  refine ⟨?_,hI.size,hI.defers,?_,?_,hg.sbd,hg.sfr,hg.s0,hg.below,?_,?_,hI.small,?_⟩
  · intro t
    show zu _ _ _ (upG ks lb (s t)) _
    rcases UG (ks:=ks) (l:=lb) (s t) with ⟨en,hen,c1,hst1,h⟩ | h
    · obtain ⟨⟨c2,e2⟩,⟨cv,h12⟩,_⟩:=hback en hen
      have h13:=hI.told t
      rw [hst1] at h13
      have h14:=h12
      rw [e2] at h14
      obtain ⟨b1,off1,arr1,ty1,fz1,e1,hw1,hp1,_⟩:=Za h13
      obtain ⟨b2,off2,arr2,ty2,fz2,e3,hw2,hp2,_⟩:=Za h14
      have e4:a.eval (.tmp t)=cv:=by
       rw [e1,e3]
       simp only [Xa] at hp1 hp2
       obtain ⟨p1,_,o1,p2,p3⟩:=hp1
       obtain ⟨q1,_,o2,q2,q3⟩:=hp2
       rw [p2] at q2
       simp only [Option.some.injEq,Prod.mk.injEq] at q2
       rw [← p1,← q1,p3,q3,q2.1]
      rw [h,e4];exact h12
    · rw [h];exact hg.told t
  · intro t k hk
    obtain ⟨t0,h0⟩:=hin3 t k hk
    have h1:=hI.own t0 k h0
    refine ⟨h1.1,Nat.lt_of_lt_of_le h1.2.1 hbel.size,?_⟩
    rintro (hs | ⟨hs,hs2⟩)
    · exact h1.2.2 hs
    · rcases hin2 t k hk with ⟨_,h⟩ | ⟨h,hn⟩
      · exact h hs
      · rcases hs2 with h2 | ⟨k',hk',e⟩
        · omega
        · obtain ⟨b,_,hb⟩:=hkm k' hk'
          have:=hI.inj b t k' k hb h e
          subst this
          exact hn hk'
  · intro t t' k k' hk hk' e
    obtain ⟨t0,h0⟩:=hin3 t k hk
    obtain ⟨t1,h1⟩:=hin3 t' k' hk'
    exact hI.inj t0 t1 k k' h0 h1 e
  · intro r u t k hl ht hk
    obtain ⟨u',hu'⟩:=hlin r u hl
    rcases hin2 t k hk with ⟨h1,_⟩ | ⟨h1,_⟩
    · obtain ⟨b,hb,hbk⟩:=hkm k h1
      refine hI.lin r u' b k hu' ?_ hbk
      rintro rfl
      rcases List.mem_append.1 hb with hb | hb
      · obtain ⟨_,_,_,_,e,_⟩:=hl2 b hb
        rw [hu'] at e;cases e
      · have:=hes b hb
        rw [hu'] at this;simp [V.ok] at this
    · exact hI.lin r u' t k hu' ht h1
  · intro r t k hg' hk
    obtain ⟨t0,h0⟩:=hin3 t k hk
    exact hI.gone r t0 k (hgone r hg') h0
  · intro t k hk hp
    obtain ⟨t0,h0⟩:=hin3 t k hk
    exact hI.pin t0 k h0 hp
 exact hK _ _ _ _ (hfin.putVal (xP (w:=w') (fun b hb=>⟨hSS b hb,rfl⟩) _ _ hrr (by rw [hru];intro k hk;cases hk)) (Xr hru) hrok o.dst hd)
theorem zvo {D:Den} {σ:Sig} {d:Option Nat} {l:Bool} {A0:A} {bs:List Nat} (h:yk D σ s d l (.vN A0 bs)=some s'):yk D σ s d l (.v A0)=some s':=by
 simp only [yk] at h ⊢
 split at h
 · rename_i v hv
   split at h
   · simp only [hv,Option.map_some];exact h
   · cases h
 · cases h
theorem zhX {D:Den} {σ:Sig} (hF:zr P D σ) {o:Oper} {z:V} {len:Nat} {ps:List (Nat×Nat×O)} (hc:cX P o.op o.type=some (.lit z len ps)) (hI:Inv w0 S0 n s a w S τ) (hd:∀ k,o.dst=some k→k < n) {l:Bool}
    (hst:yk D σ s o.dst l (.litS z len ps)=some s') {K:Act→World→Prop} {Q:Exit→Act→World→Prop} (hK:zao w0 S0 n s' K):o.wp P a w K Q:=by
 simp only [yk] at hst
 split at hst
 · rename_i d xs hdst hbld
   split at hst
   · rename_i hg
     simp only [Option.some.injEq] at hst;subst hst
     refine zbR hF hc hI hd (l:=false) (s':=upd s d (.sl (.at d []) z.shape 0 xs)) ?_ (fun _ _ _ e=>by cases e) fun a' w' S' τ' hI'=>hK _ _ _ _ (hI'.frz (K:=[.at d []]) ?_)
     · simp only [yk,hdst,hbld,hg];rfl
     · intro k hk
       simp only [List.mem_singleton] at hk
       subst hk
       exact ⟨d,by simp [V.toks]⟩
   · cases hst
 · cases hst
end
end Go.Zq
namespace Go.Zq
def X.rds:X→List Nat
 | .v a=>a.rds
 | .vN a bs=>a.rds++bs
 | .alloc _=>[]
 | .box x=>x.rds
 | .mk n _ _=>n.rds
 | .lit _ _ ps=>ps.flatMap fun p=>p.2.2.rds
 | .app _ x y | .appS _ x y=>x.rds++y.rds
 | .store _ x y | .copy x y=>x.rds++y.rds
 | .call f as=>f.rds++as.flatMap O.rds
 | .mark f as=>f.rds++as.flatMap O.rds
 | .callO f as=>f.rds++as.flatMap O.rds
 | .callG f _ as=>f.rds++as.flatMap O.rds
 | .callT f as bs es=>f.rds++as.flatMap O.rds++bs++es
 | .storeK _ x y=>x.rds++y.rds
 | .litS _ _ ps=>ps.flatMap fun p=>p.2.2.rds
def X.loc:X→Bool
 | .app .. | .store .. | .mark .. | .callG .. | .copy .. | .callT .. | .storeK .. | .litS ..=>false
 | _=>true
def X.wrs:X→List Nat
 | .appS _ x _=>x.rds
 | .call _ as=>as.flatMap O.rds
 | .callO _ as=>as.flatMap O.rds
 | _=>[]
def I.rds (i:I):List Nat:=i.d.toList++(i.g.map (·.1)).toList++i.x.rds
def I.wrs (i:I):List Nat:=i.d.toList++i.x.wrs
theorem JW {s1 s2:Nat→V} {x:O} (h:∀ t∈x.rds,s1 t=s2 t):x.ev s1=x.ev s2:=by
 cases x with
 | t n=>exact h n (by simp [O.rds])
 | k v=>rfl
theorem yl {s1 s2:Nat→V} {x:O} (h:∀ t∈x.rds,s1 t=s2 t):x.rd s1=x.rd s2:=by
 unfold O.rd;rw [JW h]
theorem ziK {s1 s2:Nat→V} {x:O} (h:∀ t∈x.rds,s1 t=s2 t):x.pk s1=x.pk s2:=by
 unfold O.pk;rw [JW h]
theorem Z5 {s1 s2:Nat→V}:∀ {xs:List O},(∀ t∈xs.flatMap O.rds,s1 t=s2 t)→Zd s1 xs=Zd s2 xs
 | [],_=>rfl
 | x :: xs,h=>by
   simp only [Zd]
   rw [yl (x:=x) fun t ht=>h t (by simp [ht]),Z5 (xs:=xs) fun t ht=>h t (by simp at ht ⊢;exact .inr ht)]
theorem J7 {s1 s2:Nat→V} {d:Nat} {x:Option O} (h:∀ t∈(x.map O.rds).getD [],s1 t=s2 t):ZO s1 d x=ZO s2 d x:=by
 cases x with
 | none=>rfl
 | some x=>simp only [ZO];rw [yl (x:=x) fun t ht=>h t (by simpa using ht)]
theorem vZ {s1 s2:Nat→V}:∀ {ps:List (Nat×Nat×O)} {vs:List V},(∀ t∈ps.flatMap (fun p=>p.2.2.rds),s1 t=s2 t)→xB s1 ps vs=xB s2 ps vs
 | [],_,_=>rfl
 | (f,off,x) :: ps,vs,h=>by
   simp only [xB]
   rw [yl (x:=x) fun t ht=>h t (by simp [ht])]
   have ih:∀ vs,xB s1 ps vs=xB s2 ps vs:=fun vs=>vZ (ps:=ps) fun t ht=>h t (by simp at ht ⊢;exact .inr ht)
   simp only [ih]
theorem ur {s1 s2:Nat→V} {a:A} (h:∀ t∈a.rds,s1 t=s2 t):z8 s1 a=z8 s2 a:=by
 cases a with
 | mov x=>exact yl h
 | pick c x y=>
   simp only [z8]
   rw [yl (x:=c) fun t ht=>h t (by simp [A.rds,ht]),yl (x:=x) fun t ht=>h t (by simp [A.rds,ht]),yl (x:=y) fun t ht=>h t (by simp [A.rds,ht])]
 | load g x=>simp only [z8];rw [yl (x:=x) h]
 | nilc x=>simp only [z8];rw [yl (x:=x) h]
 | un op x=>simp only [z8];rw [yl (x:=x) h]
 | conv k x=>simp only [z8];rw [yl (x:=x) h]
 | fld x f o=>simp only [z8];rw [yl (x:=x) h]
 | field x f o g=>simp only [z8];rw [yl (x:=x) h]
 | ext x i=>simp only [z8];rw [yl (x:=x) h]
 | extS x i=>simp only [z8];rw [yl (x:=x) h]
 | sliceA x n g=>simp only [z8];rw [yl (x:=x) h]
 | len x=>simp only [z8];rw [ziK (x:=x) h]
 | bin op x y=>simp only [z8];rw [yl (x:=x) fun t ht=>h t (by simp [A.rds,ht]),yl (x:=y) fun t ht=>h t (by simp [A.rds,ht])]
 | beq ne x y=>simp only [z8];rw [yl (x:=x) fun t ht=>h t (by simp [A.rds,ht]),yl (x:=y) fun t ht=>h t (by simp [A.rds,ht])]
 | idx x y e=>simp only [z8];rw [yl (x:=x) fun t ht=>h t (by simp [A.rds,ht]),yl (x:=y) fun t ht=>h t (by simp [A.rds,ht])]
 | idxA x y n e=>simp only [z8];rw [yl (x:=x) fun t ht=>h t (by simp [A.rds,ht]),yl (x:=y) fun t ht=>h t (by simp [A.rds,ht])]
 | index x y n g=>simp only [z8];rw [yl (x:=x) fun t ht=>h t (by simp [A.rds,ht]),yl (x:=y) fun t ht=>h t (by simp [A.rds,ht])]
 | fn f fs cs=>simp only [z8];rw [Z5 (xs:=fs) fun t ht=>h t (by simp only [A.rds,List.mem_append];exact .inl ht),Z5 (xs:=cs) fun t ht=>h t (by simp only [A.rds,List.mem_append];exact .inr ht)]
 | slice x lo hi e=>
   simp only [z8]
   have e1:∀ d,ZO s1 d lo=ZO s2 d lo:=fun d=>J7 fun t ht=>h t (by simp only [A.rds,List.mem_append];exact .inl (.inr ht))
   have e2:∀ d,ZO s1 d hi=ZO s2 d hi:=fun d=>J7 fun t ht=>h t (by simp only [A.rds,List.mem_append];exact .inr ht)
   rw [yl (x:=x) fun t ht=>h t (by simp [A.rds,ht])]
   simp only [e1,e2]
 | mx xs=>simp only [z8];rw [Z5 (xs:=xs) h]
 | mn xs=>simp only [z8];rw [Z5 (xs:=xs) h]
 | bld z ps=>
   simp only [z8]
   have e1:∀ vs,xB s1 ps vs=xB s2 ps vs:=fun vs=>vZ h
   simp only [e1]
def Mt (W:List Nat) (s1 s2:Nat→V):Option (Nat→V)→Option (Nat→V)→Prop
 | some a,some b=>(∀ t∈W,a t=b t)∧∀ t,t∉W→a t=s1 t∧b t=s2 t
 | none,none=>True
 | _,_=>False
theorem Yi {s1 s2:Nat→V} {d:Nat} {W:List Nat} (hd:d∈W) (h:∀ t∈W,t=d∨s1 t=s2 t) (v:V):Mt W s1 s2 (some (upd s1 d v)) (some (upd s2 d v)):=by
 refine ⟨fun t ht=>?_,fun t ht=>?_⟩
 · by_cases e:t=d
   · subst e;simp
   · rw [zS _ _ e,zS _ _ e];exact (h t ht).resolve_left e
 · have:t≠d:=by rintro rfl;exact ht hd
   rw [zS _ _ this,zS _ _ this];exact ⟨rfl,rfl⟩
theorem Mu {s1 s2:Nat→V}:∀ {xs:List O},(∀ t∈xs.flatMap O.rds,s1 t=s2 t) →
    match yG xs s1,yG xs s2 with
    | some (v1,a),some (v2,b)=>v1=v2∧(∀ t∈xs.flatMap O.rds,a t=b t)∧∀ t,t∉xs.flatMap O.rds→a t=s1 t∧b t=s2 t
    | none,none=>True
    | _,_=>False:=by
 intro xs
 induction xs generalizing s1 s2 with
 | nil=>intro h;simp [yG]
 | cons x xs ih=>
   intro h
   have e:=JW (x:=x) (s1:=s1) (s2:=s2) fun t ht=>h t (by simp [ht])
   have hx:∀ t∈xs.flatMap O.rds,s1 t=s2 t:=fun t ht=>h t (by simp at ht ⊢;exact .inr ht)
   have stay:∀ v:V,match (yG xs s1).map (fun p=>(v.erase :: p.1,p.2)),(yG xs s2).map (fun p=>(v.erase :: p.1,p.2)) with
       | some (v1,a),some (v2,b)=>v1=v2∧(∀ t∈(x :: xs).flatMap O.rds,a t=b t)∧∀ t,t∉(x :: xs).flatMap O.rds→a t=s1 t∧b t=s2 t
       | none,none=>True
       | _,_=>False:=by
    intro v
    have:=ih hx
    cases h1:yG xs s1 <;> cases h2:yG xs s2 <;> simp only [h1,h2] at this
    · trivial
    · rename_i p q
      obtain ⟨p1,p2⟩:=p
      obtain ⟨q1,q2⟩:=q
      obtain ⟨h0,h3,h4⟩:=this
      dsimp only at h0 h3 h4
      subst h0
      simp only [Option.map_some]
      refine ⟨trivial,fun t ht=>?_,fun t ht=>?_⟩
      · by_cases hm:t∈xs.flatMap O.rds
        · exact h3 t hm
        · rw [(h4 t hm).1,(h4 t hm).2];exact h t ht
      · exact h4 t (by simp at ht ⊢;exact ht.2)
   simp only [yG]
   rw [← e]
   cases hv:x.ev s1 with
   | gone=>trivial
   | lin v=>
     cases x with
     | k u=>trivial
     | t r=>
       simp only
       have hu:∀ t∈xs.flatMap O.rds,upd s1 r .dead t=upd s2 r .dead t:=by
        intro t ht
        by_cases e:t=r
        · subst e;simp
        · rw [zS _ _ e,zS _ _ e];exact hx t ht
       have:=ih hu
       cases h1:yG xs (upd s1 r .dead) <;> cases h2:yG xs (upd s2 r .dead) <;> simp only [h1,h2] at this
       · trivial
       · rename_i p q
         obtain ⟨p1,p2⟩:=p
         obtain ⟨q1,q2⟩:=q
         obtain ⟨h0,h3,h4⟩:=this
         dsimp only at h0 h3 h4
         subst h0
         simp only [Option.map_some]
         refine ⟨trivial,fun t ht=>?_,fun t ht=>?_⟩
         · by_cases hm:t∈xs.flatMap O.rds
           · exact h3 t hm
           · rw [(h4 t hm).1,(h4 t hm).2]
             by_cases e:t=r
             · subst e;simp
             · rw [zS _ _ e,zS _ _ e];exact h t ht
         · have h5:=h4 t (by simp at ht ⊢;exact ht.2)
           have:t≠r:=by rintro rfl;simp [O.rds] at ht
           rw [zS _ _ this,zS _ _ this] at h5
           exact h5
   | _=>exact stay _
theorem UX {s1 s2:Nat→V}:∀ {xs:List O},(∀ t∈xs.flatMap O.rds,s1 t=s2 t)→yw s1 xs=yw s2 xs
 | [],_=>rfl
 | x :: xs,h=>by
   simp only [yw]
   rw [JW (x:=x) fun t ht=>h t (by simp [ht]),UX (xs:=xs) fun t ht=>h t (by simp at ht ⊢;exact .inr ht)]
theorem zcR {s1 s2:Nat→V} {d:Option Nat} {l:Bool} {v:V} (h:∀ t∈d.toList,s1 t=s2 t):Mt d.toList s1 s2 (place s1 d l v) (place s2 d l v):=by
 unfold place
 cases d with
 | none=>
   split
   · split
     · exact ⟨fun t ht=>absurd ht (by simp),fun t _=>⟨rfl,rfl⟩⟩
     · trivial
   · trivial
 | some d=>
   have hd:s1 d=s2 d:=h d (by simp)
   split
   · split
     · exact Yi (by simp) (fun t ht=>.inl (by simpa using ht)) v
     · trivial
   · simp only
     rw [← hd]
     split
     · split
       · exact Yi (by simp) (fun t ht=>.inl (by simpa using ht)) _
       · trivial
     · trivial
theorem Mt.widen {W W':List Nat} {s1 s2:Nat→V} {a b:Option (Nat→V)} (h:Mt W s1 s2 a b) (hw:∀ t∈W,t∈W') (he:∀ t∈W',s1 t=s2 t):Mt W' s1 s2 a b:=by
 cases a <;> cases b <;> simp only [Mt] at h ⊢
 · refine ⟨fun t ht=>?_,fun t ht=>h.2 t (fun hm=>ht (hw t hm))⟩
   rename_i a b
   by_cases hm:t∈W
   · exact h.1 t hm
   · rw [(h.2 t hm).1,(h.2 t hm).2];exact he t ht
theorem Mn {D:Den} {σ:Sig} {s1 s2:Nat→V} {d:Option Nat} {l ob:Bool} {f:O} {as:List O} (hdl:∀ t∈d.toList,s1 t=s2 t) (hxr:∀ t∈f.rds++as.flatMap O.rds,s1 t=s2 t) :
    Mt (d.toList++as.flatMap O.rds) s1 s2 (Ur D σ s1 d l ob f as) (Ur D σ s2 d l ob f as):=by
 simp only [Ur]
 rw [yl (x:=f) fun t ht=>hxr t (by simp [ht])]
 have has:∀ t∈as.flatMap O.rds,s1 t=s2 t:=fun t ht=>hxr t (by simp only [List.mem_append];exact .inr ht)
 have hta:=Mu (xs:=as) has
 rw [UX (xs:=as) has]
 cases f.rd s2 with
 | none=>trivial
 | some fv=>
   cases fv with
   | fn g fs env=>
     simp only
     cases h1:yG as s1 <;> cases h2:yG as s2 <;> simp only [h1,h2] at hta
     · trivial
     · rename_i p q
       obtain ⟨p1,p2⟩:=p
       obtain ⟨q1,q2⟩:=q
       obtain ⟨h0,h3,h4⟩:=hta
       dsimp only at h0 h3 h4
       subst h0
       simp only
       split
       · rename_i r m al hD hσ
         split
         · trivial
         split
         · trivial
         · split
           · have hp:∀ t∈d.toList,p2 t=q2 t:=by
              intro t ht
              by_cases hm:t∈as.flatMap O.rds
              · exact h3 t hm
              · rw [(h4 t hm).1,(h4 t hm).2];exact hdl t ht
             have hpl:=zcR (l:=l) (v:=V.tag (d.getD 0) [] m r) hp
             cases hpa:place p2 d l (V.tag (d.getD 0) [] m r) <;> cases hpb:place q2 d l (V.tag (d.getD 0) [] m r) <;> simp only [hpa,hpb,Mt] at hpl ⊢
             rename_i a b
             refine ⟨fun t ht=>?_,fun t ht=>?_⟩
             · by_cases hm:t∈d.toList
               · exact hpl.1 t hm
               · rw [(hpl.2 t hm).1,(hpl.2 t hm).2]
                 rcases List.mem_append.1 ht with h | h
                 · exact absurd h hm
                 · exact h3 t h
             · simp only [List.mem_append,not_or] at ht
               rw [(hpl.2 t ht.1).1,(hpl.2 t ht.1).2]
               exact h4 t ht.2
           · trivial
       · trivial
   | _=>trivial
theorem zc8 {D:Den} {σ:Sig} {s1 s2:Nat→V} {d:Option Nat} {l:Bool} {x:X} (hl:x.loc=true) (h:∀ t∈d.toList++x.rds,s1 t=s2 t) :
    Mt (d.toList++x.wrs) s1 s2 (yk D σ s1 d l x) (yk D σ s2 d l x):=by
 have hdl:∀ t∈d.toList,s1 t=s2 t:=fun t ht=>h t (by simp only [List.mem_append];exact .inl ht)
 have hxr:∀ t∈x.rds,s1 t=s2 t:=fun t ht=>h t (by simp only [List.mem_append];exact .inr ht)
 have hw:∀ t∈d.toList++x.wrs,s1 t=s2 t:=by
  intro t ht
  refine h t ?_
  simp only [List.mem_append] at ht ⊢
  refine ht.imp id fun ht=>?_
  cases x <;> simp only [X.wrs,X.rds] at ht ⊢ <;> first | (simp at ht;done) | (simp only [List.mem_append];first | exact .inl ht | exact .inr ht)
 cases x with
 | app g x y=>simp [X.loc] at hl
 | store g x y=>simp [X.loc] at hl
 | mark f as=>simp [X.loc] at hl
 | callG f i as=>simp [X.loc] at hl
 | callT f as bs es=>simp [X.loc] at hl
 | storeK h x y=>simp [X.loc] at hl
 | litS z len ps=>simp [X.loc] at hl
 | copy x y=>simp [X.loc] at hl
 | v a=>
   simp only [yk,X.wrs,List.append_nil]
   rw [ur (a:=a) hxr]
   cases z8 s2 a with
   | none=>trivial
   | some v=>
     simp only [Option.map_some]
     cases d with
     | none=>exact ⟨fun t ht=>absurd ht (by simp),fun t _=>⟨rfl,rfl⟩⟩
     | some d=>exact Yi (by simp) (fun t ht=>.inl (by simpa using ht)) v
 | vN a bs=>
   have h1:∀ t∈a.rds,s1 t=s2 t:=fun t ht=>hxr t (by simp [X.rds,ht])
   have h2:yo s1 bs=yo s2 bs:=by
    unfold yo
    have:∀ l:List Nat,(∀ t∈l,s1 t=s2 t)→(l.flatMap fun b=>(s1 b).toks)=l.flatMap fun b=>(s2 b).toks:=by
     intro l
     induction l with
     | nil=>intro _;rfl
     | cons x l ih=>intro h;simp only [List.flatMap_cons,h x (by simp),ih fun t ht=>h t (by simp [ht])]
    exact this bs fun t ht=>hxr t (by simp [X.rds,ht])
   have h3:(a.rds.all fun t=>(s1 t).toks.all fun k=>!(yo s1 bs).contains k)=(a.rds.all fun t=>(s2 t).toks.all fun k=>!(yo s2 bs).contains k):=by
    rw [h2]
    have:∀ l:List Nat,(∀ t∈l,s1 t=s2 t)→(l.all fun t=>(s1 t).toks.all fun k=>!(yo s2 bs).contains k)=(l.all fun t=>(s2 t).toks.all fun k=>!(yo s2 bs).contains k):=by
     intro l
     induction l with
     | nil=>intro _;rfl
     | cons x l ih=>intro h;simp only [List.all_cons,h x (by simp),ih fun t ht=>h t (by simp [ht])]
    exact this _ h1
   simp only [yk,X.wrs,List.append_nil]
   rw [ur (a:=a) h1,h3,h2]
   cases z8 s2 a with
   | none=>trivial
   | some v=>
     simp only
     split
     · cases d with
       | none=>exact ⟨fun t ht=>absurd ht (by simp),fun t _=>⟨rfl,rfl⟩⟩
       | some d=>exact Yi (by simp) (fun t ht=>.inl (by simpa using ht)) v
     · trivial
 | alloc z=>
   simp only [yk,X.wrs,List.append_nil]
   cases d with
   | none=>trivial
   | some d=>
     simp only
     rw [← hdl d (by simp)]
     split
     · exact Yi (by simp) (fun t ht=>.inl (by simpa using ht)) _
     · trivial
 | box x=>
   simp only [yk,X.wrs,List.append_nil]
   rw [yl (x:=x) hxr]
   cases d with
   | none=>trivial
   | some d=>
     cases x.rd s2 with
     | none=>trivial
     | some v=>
       simp only
       rw [← hdl d (by simp)]
       split
       · split
         · exact Yi (by simp) (fun t ht=>.inl (by simpa using ht)) _
         · trivial
       · trivial
 | mk n z z0=>
   simp only [yk,X.wrs,List.append_nil]
   rw [yl (x:=n) hxr]
   cases d with
   | none=>trivial
   | some d=>
     cases n.rd s2 with
     | none=>trivial
     | some v=>
       cases v with
       | int k m=>
         simp only
         rw [← hdl d (by simp)]
         split
         · split
           · exact Yi (by simp) (fun t ht=>.inl (by simpa using ht)) _
           · trivial
         · trivial
       | _=>trivial
 | lit z len ps=>
   simp only [yk,X.wrs,List.append_nil]
   rw [vZ (ps:=ps) hxr]
   cases d with
   | none=>trivial
   | some d=>
     cases xB s2 ps (List.replicate len z) with
     | none=>trivial
     | some xs=>
       simp only
       rw [← hdl d (by simp)]
       split
       · exact Yi (by simp) (fun t ht=>.inl (by simpa using ht)) _
       · trivial
 | call f as=>exact Mn hdl hxr
 | callO f as=>exact Mn hdl hxr
 | appS g x y=>
   simp only [yk,X.wrs]
   rw [yl (x:=y) fun t ht=>hxr t (by simp [X.rds,ht])]
   cases d with
   | none=>trivial
   | some d=>
     have hsp:(∃ a1 a2 v,ZA s1 x=some (a1,v)∧ZA s2 x=some (a2,v)∧(∀ t∈x.rds,a1 t=a2 t)∧(∀ t,t∉x.rds→a1 t=s1 t∧a2 t=s2 t))∨(ZA s1 x=none∧ZA s2 x=none):=by
      cases x with
      | t r=>
        have e:s1 r=s2 r:=hxr r (by simp [X.rds,O.rds])
        have h0:∀ s:Nat→V,ZA s (.t r)=(match s r with
         | .lin (.sl (.at r' p) h lo xs)=>if (decide (r'=r) && (V.tokss xs).isEmpty)=true then some (upd s r .dead,.sl (.at r' p) h lo xs) else none
         | .sl .nl h lo xs=>some (s,.sl .nl h lo xs)
         | _=>none):=fun _=>rfl
        rw [h0 s1,h0 s2,e]
        clear hxr
        generalize hw:s2 r=w
        split
        · split
          · left
            refine ⟨_,_,_,rfl,rfl,fun t ht=>?_,fun t ht=>?_⟩
            · have:t=r:=by simpa [O.rds] using ht
              subst this;simp
            · have:t≠r:=by rintro rfl;simp [O.rds] at ht
              rw [zS _ _ this,zS _ _ this];exact ⟨rfl,rfl⟩
          · exact .inr ⟨rfl,rfl⟩
        · left
          refine ⟨_,_,_,rfl,rfl,fun t ht=>?_,fun t _=>⟨rfl,rfl⟩⟩
          have:t=r:=by simpa [O.rds] using ht
          subst this;exact e
        · exact .inr ⟨rfl,rfl⟩
      | k u=>
        clear hl hxr h hw
        have h0:∀ s:Nat→V,ZA s (.k u)=(match u with
         | .sl .nl h lo xs=>some (s,.sl .nl h lo xs)
         | _=>none):=fun _=>by
           cases u with
           | sl t _ _ _=>cases t <;> rfl
           | _=>rfl
        rw [h0 s1,h0 s2]
        split
        · exact .inl ⟨_,_,_,rfl,rfl,fun t ht=>by simp [O.rds] at ht,fun t _=>⟨rfl,rfl⟩⟩
        · exact .inr ⟨rfl,rfl⟩
     rcases hsp with ⟨a1,a2,v,e1,e2,h3,h4⟩ | ⟨e1,e2⟩
     · rw [e1,e2]
       cases v with
       | sl t g1 lo xs=>
         cases y.rd s2 with
         | none=>trivial
         | some yv=>
           cases yv with
           | sl t2 g2 lo2 ys=>
             simp only
             have hdd:a1 d=a2 d:=by
              by_cases hm:d∈x.rds
              · exact h3 d hm
              · rw [(h4 d hm).1,(h4 d hm).2];exact hdl d (by simp)
             rw [← hdd]
             split
             · split
               · refine ⟨fun k hk=>?_,fun k hk=>?_⟩
                 · by_cases e:k=d
                   · subst e;simp
                   · rw [zS _ _ e,zS _ _ e]
                     simp only [Option.toList_some,List.mem_append,List.mem_singleton] at hk
                     exact h3 k (hk.resolve_left e)
                 · simp only [Option.toList_some,List.mem_append,List.mem_singleton,not_or] at hk
                   rw [zS _ _ hk.1,zS _ _ hk.1]
                   exact h4 k hk.2
               · trivial
             · trivial
           | _=>trivial
       | _=>trivial
     · rw [e1,e2];trivial
theorem KI {D:Den} {σ:Sig} {s1 s2:Nat→V} {i:I} (hl:i.x.loc=true) (h:∀ t∈i.rds,s1 t=s2 t):Mt i.wrs s1 s2 (step D σ s1 i) (step D σ s2 i):=by
 have h1:∀ t∈i.d.toList++i.x.rds,s1 t=s2 t:=fun t ht=>h t (by
  simp only [I.rds,List.mem_append] at ht ⊢
  rcases ht with ht | ht
  · exact .inl (.inl ht)
  · exact .inr ht)
 have hx:=zc8 (D:=D) (σ:=σ) (l:=i.l) hl h1
 unfold step
 cases hg:i.g with
 | none=>exact hx
 | some jw=>
   obtain ⟨j,want⟩:=jw
   simp only
   rw [← h j (by simp [I.rds,hg])]
   have sk:Mt i.wrs s1 s2 (some (put s1 i.d (.tup []))) (some (put s2 i.d (.tup []))):=by
    cases hd:i.d with
    | none=>exact ⟨fun t ht=>h t (by simp only [I.wrs,hd,I.rds,List.mem_append] at ht ⊢;rcases ht with ht | ht;simp at ht;right;cases hx':i.x <;> rw [hx'] at ht <;> simp only [X.wrs,X.rds] at ht ⊢ <;> first | (simp at ht;done) | (simp only [List.mem_append];first | exact .inl ht | exact .inr ht)),fun t _=>⟨rfl,rfl⟩⟩
    | some d=>
      have:=Yi (s1:=s1) (s2:=s2) (d:=d) (W:=[d]) (by simp) (fun t ht=>.inl (by simpa using ht)) (.tup [])
      refine this.widen (by simp [I.wrs,hd]) ?_
      intro t ht
      refine h t ?_
      simp only [I.wrs,hd,I.rds,List.mem_append] at ht ⊢
      rcases ht with ht | ht
      · exact .inl (.inl ht)
      · right
        cases hx':i.x <;> rw [hx'] at ht <;> simp only [X.wrs,X.rds] at ht ⊢ <;> first | (simp at ht;done) | (simp only [List.mem_append];first | exact .inl ht | exact .inr ht)
   split
   · split
     · exact hx
     · exact sk
   · exact sk
   · trivial
def I.apart1 (i j:I):Bool:=i.x.loc && j.x.loc && i.wrs.all (fun t=>!j.rds.contains t && !j.wrs.contains t) && j.wrs.all (fun t=>!i.rds.contains t)
theorem zc2 {D:Den} {σ:Sig} {s s1 s2:Nat→V} {i j:I} (h:i.apart1 j=true) (h1:step D σ s i=some s1) (h2:step D σ s1 j=some s2) :
    ∃ s1',step D σ s j=some s1'∧step D σ s1' i=some s2:=by
 simp only [I.apart1,Bool.and_eq_true,List.all_eq_true,Bool.not_eq_true'] at h
 obtain ⟨⟨⟨hli,hlj⟩,hij⟩,hji⟩:=h
 have hij1:∀ t∈i.wrs,t∉j.rds:=fun t ht=>by have:=(hij t ht).1;simpa using this
 have hij2:∀ t∈i.wrs,t∉j.wrs:=fun t ht=>by have:=(hij t ht).2;simpa using this
 have hji1:∀ t∈j.wrs,t∉i.rds:=fun t ht=>by have:=hji t ht;simpa using this
 have e1:∀ t,t∉i.wrs→s1 t=s t:=by
  have:=KI (D:=D) (σ:=σ) (s1:=s) (s2:=s) (i:=i) hli (fun t _=>rfl)
  rw [h1] at this
  exact fun t ht=>(this.2 t ht).1
 have hj:=KI (D:=D) (σ:=σ) (s1:=s1) (s2:=s) (i:=j) hlj (fun t ht=>e1 t (fun hm=>hij1 t hm ht))
 rw [h2] at hj
 cases hj':step D σ s j with
 | none=>rw [hj'] at hj;exact hj.elim
 | some s1'=>
   rw [hj'] at hj
   refine ⟨s1',rfl,?_⟩
   have hi:=KI (D:=D) (σ:=σ) (s1:=s) (s2:=s1') (i:=i) hli (fun t ht=>((hj.2 t (fun hm=>hji1 t hm ht)).2).symm)
   rw [h1] at hi
   cases hi':step D σ s1' i with
   | none=>rw [hi'] at hi;exact hi.elim
   | some s2'=>
     rw [hi'] at hi
     congr 1
     funext t
     by_cases ht:t∈i.wrs
     · rw [← hi.1 t ht,(hj.2 t (hij2 t ht)).1]
     · rw [(hi.2 t ht).2]
       by_cases ht2:t∈j.wrs
       · exact (hj.1 t ht2).symm
       · rw [(hj.2 t ht2).2,(hj.2 t ht2).1,e1 t ht]
def I.apart2 (i j:I):Bool:=match i,j with
 | ⟨some d,none,_,.v (.extS (.t a) _)⟩,⟨none,none,_,.store _ (.t b) (.t c)⟩=>decide (d≠a) && (decide (d≠b) && decide (d≠c))
 | _,_=>false
theorem zca {tk:Tok} {i:Nat} {q:List Nat} {u:V}:∀ (vs:List V) (k:Nat),(V.muts tk i q u vs)[k]?=(vs[k]?).map (V.mut tk i q u)
 | [],k=>by simp [V.muts]
 | v :: vs,0=>by simp [V.muts]
 | v :: vs,k + 1=>by simp [V.muts,zca vs k]
theorem zdP {D:Den} {σ:Sig} {s s1 s2:Nat→V} {i j:I} (h:i.apart2 j=true) (h1:step D σ s i=some s1) (h2:step D σ s1 j=some s2) :
    ∃ s1',step D σ s j=some s1'∧step D σ s1' i=some s2:=by
 unfold I.apart2 at h
 split at h
 · rename_i d l a k l2 g b c
   simp only [Bool.and_eq_true,decide_eq_true_eq] at h
   obtain ⟨ha,hb,hc⟩:=h
   simp only [step,yk] at h1
   cases he:z8 s (.extS (.t a) k) with
   | none=>rw [he] at h1;cases h1
   | some v=>
     rw [he] at h1
     simp [put] at h1
     subst h1
     have hrd:∀ t,d≠t→(O.t t).rd (upd s d v)=(O.t t).rd s:=by
      intro t ht
      exact yl (x:=.t t) fun t' ht'=>by
       have:t'=t:=by simpa [O.rds] using ht'
       subst this;exact zS _ _ (Ne.symm ht)
     simp only [step,yk] at h2 ⊢
     rw [hrd b hb,hrd c hc] at h2
     split at h2
     · rename_i t' i' q' c' v' h3 h4
       split at h2
       · rename_i hcond
         simp only [Option.some.injEq] at h2
         subst h2
         try simp only [h3,h4]
         rw [if_pos hcond]
         refine ⟨_,rfl,?_⟩
         simp only [z8] at he ⊢
         split at he
         · rename_i vs hvs
           have hsa:s a = .tup vs:=by
            unfold O.rd at hvs
            by_cases hk:(O.ev s (.t a)).ok=true
            · rw [if_pos hk] at hvs;simpa [O.ev] using hvs
            · rw [if_neg hk] at hvs;cases hvs
           have hvs2:(O.t a).rd (X5 t' i' q' v' s)=some (.tup (V.muts t' i' q' v' vs)):=by
            simp only [O.rd,O.ev,X5,hsa,V.mut,V.ok,if_true]
           rw [hvs2]
           simp only [zca]
           split at he
           · rename_i k' n' hk
             simp only [Option.some.injEq] at he;subst he
             rw [hk]
             simp only [Option.map_some,V.mut,put,Option.some.injEq]
             funext t
             by_cases e:t=d
             · subst e;simp [X5,V.mut]
             · rw [zS _ _ e];simp only [X5];rw [zS _ _ e]
           · rename_i b' hk
             simp only [Option.some.injEq] at he;subst he
             rw [hk]
             simp only [Option.map_some,V.mut,put,Option.some.injEq]
             funext t
             by_cases e:t=d
             · subst e;simp [X5,V.mut]
             · rw [zS _ _ e];simp only [X5];rw [zS _ _ e]
           · cases he
         · cases he
       · cases h2
     · cases h2
 · cases h
def I.apart3 (i j:I):Bool:=match i,j with
 | ⟨some d,none,_,.v (.mov (.t a))⟩,⟨some e,none,_,.copy (.t b) (.t c)⟩=>decide (d≠b) && (decide (d≠c) && (decide (d≠e) && decide (a≠e)))
 | _,_=>false
theorem znB {tk:Tok} {i:Nat} {q:List Nat} {u v:V}:(V.mut tk i q u v).ok=v.ok:=by
 cases v with
 | sl t h lo xs=>
   cases t with
   | sh=>simp only [V.mut]
   | bx r=>simp only [V.mut];split <;> rfl
   | «at» r p=>simp only [V.mut];split <;> rfl
   | nl=>simp only [V.mut];split <;> rfl
 | ref t k p c=>
   cases t with
   | sh=>simp only [V.mut]
   | bx r=>simp only [V.mut];split;split;all_goals rfl
   | «at» r p=>simp only [V.mut];split;split;all_goals rfl
   | nl=>simp only [V.mut];split;split;all_goals rfl
 | _=>simp only [V.mut,V.ok]
theorem NK {tk:Tok} {a:Nat}:∀ (us:List V) (lo:Nat) (s:Nat→V) (v:V),(O.t a).rd s=some v →
    ∃ v',(O.t a).rd (Uu tk lo us s)=some v'∧∀ d,Uu tk lo us (upd s d v)=upd (Uu tk lo us s) d v'
 | [],lo,s,v,h=>⟨v,h,fun _=>rfl⟩
 | u :: us,lo,s,v,h=>by
   have h1:(O.t a).rd (X5 tk lo [] u s)=some (V.mut tk lo [] u v):=by
    unfold O.rd at h ⊢
    by_cases hk:(O.ev s (.t a)).ok=true
    · rw [if_pos hk] at h
      simp only [Option.some.injEq] at h
      rw [if_pos (by simp only [O.ev,X5,znB];exact hk),← h]
      rfl
    · rw [if_neg hk] at h;cases h
   obtain ⟨v',h2,h3⟩:=NK us (lo + 1) _ _ h1
   refine ⟨v',h2,fun d=>?_⟩
   rw [show Uu tk lo (u :: us) (upd s d v)=Uu tk (lo + 1) us (X5 tk lo [] u (upd s d v)) from rfl,show Uu tk lo (u :: us) s=Uu tk (lo + 1) us (X5 tk lo [] u s) from rfl,← h3 d]
   congr 1
   funext t
   by_cases e:t=d
   · subst e;simp [X5]
   · rw [zS _ _ e];simp only [X5];rw [zS _ _ e]
theorem zdg {D:Den} {σ:Sig} {s s1 s2:Nat→V} {i j:I} (h:i.apart3 j=true) (h1:step D σ s i=some s1) (h2:step D σ s1 j=some s2) :
    ∃ s1',step D σ s j=some s1'∧step D σ s1' i=some s2:=by
 unfold I.apart3 at h
 split at h
 · rename_i d l a e l2 b c
   simp only [Bool.and_eq_true,decide_eq_true_eq] at h
   obtain ⟨hb,hc,he,ha⟩:=h
   simp only [step,yk,z8] at h1
   cases hv:(O.t a).rd s with
   | none=>rw [hv] at h1;cases h1
   | some v=>
     rw [hv] at h1
     simp [put] at h1
     subst h1
     have hrd:∀ t,d≠t→(O.t t).rd (upd s d v)=(O.t t).rd s:=by
      intro t ht
      exact yl (x:=.t t) fun t' ht'=>by
       have:t'=t:=by simpa [O.rds] using ht'
       subst this;exact zS _ _ (Ne.symm ht)
     simp only [step,yk] at h2 ⊢
     rw [hrd b hb,hrd c hc] at h2
     split at h2
     · rename_i r p g lo xs t2 g2 lo2 ys h3 h4
       split at h2
       · rename_i hcond
         simp only [Option.some.injEq] at h2
         subst h2
         try simp only [h3,h4]
         rw [if_pos hcond]
         obtain ⟨v',h5,h6⟩:=NK (tk:=.at r p) (ys.take xs.length) lo s v hv
         refine ⟨_,rfl,?_⟩
         simp only [put,z8]
         have h7:(O.t a).rd (upd (Uu (.at r p) lo (ys.take xs.length) s) e (.int .i64 (min ys.length xs.length:Nat)))=some v':=by
          rw [← h5]
          exact yl (x:=.t a) fun t' ht'=>by
           have:t'=a:=by simpa [O.rds] using ht'
           subst this;exact zS _ _ ha
         rw [h7,h6 d,Option.map_some,Option.some.injEq]
         funext t
         simp only [put]
         by_cases e1:t=d
         · subst e1;rw [zS _ _ he];simp
         · by_cases e2:t=e
           · subst e2;rw [zS _ _ e1];simp
           · rw [zS _ _ e1,zS _ _ e2,zS _ _ e2,zS _ _ e1]
       · cases h2
     · cases h2
 · cases h
mutual
theorem WQ {ks:List Tok} (hn:ks.contains .nl=false):∀ v:V,(∀ k∈v.toks,ks.contains k=false)→V.map (Xe ks) v=v
 | .dead,_ | .gone,_ | .int ..,_ | .bool _,_=>rfl
 | .lin v,h=>by simp only [V.map];rw [WQ hn v (by simpa [V.toks] using h)]
 | .agg vs,h=>by simp only [V.map];rw [Z4 hn vs (by simpa [V.toks] using h)]
 | .tup vs,h=>by simp only [V.map];rw [Z4 hn vs (by simpa [V.toks] using h)]
 | .fn g fs env,h=>by simp only [V.map];rw [Z4 hn fs fun k hk=>h k (by simp [V.toks,hk]),Z4 hn env fun k hk=>h k (by simp [V.toks,hk])]
 | .ref t i q c,h=>by
   cases t with
   | sh=>rfl
   | nl=>simp only [V.map,Xe,hn];rw [WQ hn c fun k hk=>h k (by simp [V.toks,hk])];rfl
   | «at» r p=>
     have h1:=h (.at r p) (by simp [V.toks])
     simp only [V.map,Xe,h1];rw [WQ hn c fun k hk=>h k (by simp [V.toks,hk])];rfl
   | bx r=>
     have h1:=h (.bx r) (by simp [V.toks])
     simp only [V.map,Xe,h1];rw [WQ hn c fun k hk=>h k (by simp [V.toks,hk])];rfl
 | .sl t g lo xs,h=>by
   cases t with
   | sh=>rfl
   | nl=>
     simp only [V.map,Xe,hn]
     by_cases hf:g.flat=true
     · simp [hf]
     · have hf:g.flat=false:=by simpa using hf
       simp only [hf]
       rw [Z4 hn xs fun k hk=>h k (by simp [V.toks,hf,hk])];rfl
   | «at» r p=>
     have h1:=h (.at r p) (by simp [V.toks])
     simp only [V.map,Xe,h1]
     by_cases hf:g.flat=true
     · simp [hf]
     · have hf:g.flat=false:=by simpa using hf
       simp only [hf]
       rw [Z4 hn xs fun k hk=>h k (by simp [V.toks,hf,hk])];rfl
   | bx r=>
     have h1:=h (.bx r) (by simp [V.toks])
     simp only [V.map,Xe,h1]
     by_cases hf:g.flat=true
     · simp [hf]
     · have hf:g.flat=false:=by simpa using hf
       simp only [hf]
       rw [Z4 hn xs fun k hk=>h k (by simp [V.toks,hf,hk])];rfl
theorem Z4 {ks:List Tok} (hn:ks.contains .nl=false):∀ vs:List V,(∀ k∈V.tokss vs,ks.contains k=false)→V.maps (Xe ks) vs=vs
 | [],_=>rfl
 | v :: vs,h=>by simp only [V.maps];rw [WQ hn v fun k hk=>h k (by simp [V.tokss,hk]),Z4 hn vs fun k hk=>h k (by simp [V.tokss,hk])]
end
theorem Ng {s1 s2:Nat→V}:∀ {l:List Nat},(∀ t∈l,s1 t=s2 t)→yo s1 l=yo s2 l
 | [],_=>rfl
 | x :: l,h=>by
   have:=Ng (l:=l) fun t ht=>h t (by simp [ht])
   unfold yo at this ⊢
   simp only [List.flatMap_cons,h x (by simp),this]
theorem Lt {s1 s2:Nat→V}:∀ {l:List Nat} {v:V},(∀ t∈l,s1 t=s2 t)→Zy s1 l v=Zy s2 l v
 | [],_,_=>rfl
 | b :: l,v,h=>by
   have h1:=h b (by simp)
   have h2:∀ v,Zy s1 l v=Zy s2 l v:=fun v=>Lt fun t ht=>h t (by simp [ht])
   cases v with
   | ref t0 i q c0=>
     cases t0 with
     | bx r=>simp only [Zy,h1,h2]
     | _=>rfl
   | _=>rfl
theorem Lr {s1 s2:Nat→V} {ks:List Tok}:∀ {l:List Nat} {us:List V},(∀ t∈l,s1 t=s2 t)→YW s1 ks l us=YW s2 ks l us
 | [],us,_=>by cases us <;> rfl
 | b :: l,[],_=>rfl
 | b :: l,u :: us,h=>by
   simp only [YW,h b (by simp),Lr (l:=l) (us:=us) fun t ht=>h t (by simp [ht])]
theorem Lk {D:Den} {σ:Sig} {s1 s2:Nat→V} {f:O} {args:List O} {bs:List Nat} (h:∀ t∈f.rds++args.flatMap O.rds++bs,s1 t=s2 t):UR D σ s1 f args bs []=UR D σ s2 f args bs []:=by
 have h1:f.rd s1=f.rd s2:=yl fun t ht=>h t (by simp [ht])
 have h2:Zd s1 args=Zd s2 args:=Z5 fun t ht=>h t (by rw [List.mem_append,List.mem_append];exact .inl (.inr ht))
 have hb:∀ t∈bs,s1 t=s2 t:=fun t ht=>h t (by simp [ht])
 have h3:yo s1 (bs++[])=yo s2 (bs++[]):=Ng (by simpa using hb)
 have h4:Zy s1 bs=Zy s2 bs:=funext fun v=>Lt hb
 have h5:YW s1 (yo s2 (bs++[])) bs=YW s2 (yo s2 (bs++[])) bs:=funext fun us=>Lr hb
 unfold UR
 rw [h1,h2,h3,h4,h5]
 rfl
theorem zip {D:Den} {σ:Sig} {s:Nat→V} {f:O} {args:List O} {bs:List Nat} {p:List Tok×List (Nat×Nat×List Nat×V)×V} (h:UR D σ s f args bs []=some p):p.1=yo s bs∧∃ us,YW s p.1 bs us=some p.2.1:=by
 unfold UR at h
 repeat' split at h
 all_goals first
  | (cases h;done)
  | (simp only [Option.map_eq_some_iff] at h
     obtain ⟨l,hl,rfl⟩:=h
     exact ⟨by simp,_,hl⟩)
theorem zcC {ks:List Tok} {l:List (Nat×Nat×List Nat×V)} {v:V} (hn:ks.contains .nl=false) (hl:∀ e∈l,ks.contains (.bx e.1)=true) (h:∀ k∈v.toks,ks.contains k=false):upG ks l v=v:=by
 rcases UG (ks:=ks) (l:=l) v with ⟨e,he,c,rfl,_⟩ | h1
 · have h2:=h (.bx e.1) (by simp [V.toks])
   rw [hl e he] at h2;cases h2
 · rw [h1];exact WQ hn v h
def I.apart4 (i j:I):Bool:=match i,j with
 | ⟨some d,none,_,.vN a bs⟩,⟨some e,none,_,.callT f args bs' []⟩=>decide (bs'=bs) && (!(f.rds++args.flatMap O.rds++bs).contains d && (decide (d≠e) && (!a.rds.contains e && !bs.contains e)))
 | ⟨some e,none,_,.callT f args bs []⟩,⟨some d,none,_,.v (.mov (.t a))⟩=>!(f.rds++args.flatMap O.rds++bs).contains d && (decide (d≠e) && decide (a≠e))
 | _,_=>false
theorem zdx {D:Den} {σ:Sig} {s s1 s2:Nat→V} {i j:I} (h:i.apart4 j=true) (h1:step D σ s i=some s1) (h2:step D σ s1 j=some s2) :
    ∃ s1',step D σ s j=some s1'∧step D σ s1' i=some s2:=by
 unfold I.apart4 at h
 split at h
 · rename_i d l a bs e l2 f args bs'
   simp only [Bool.and_eq_true,decide_eq_true_eq,Bool.not_eq_true'] at h
   obtain ⟨rfl,hd,hde,hea,heb⟩:=h
   have hd':∀ t∈f.rds++args.flatMap O.rds++bs',t≠d:=by
    rintro t ht rfl
    have:=List.contains_iff_mem.2 ht
    rw [this] at hd;cases hd
   have hea':∀ t∈a.rds,t≠e:=by
    rintro t ht rfl
    have:=List.contains_iff_mem.2 ht
    rw [this] at hea;cases hea
   have heb':∀ t∈bs',t≠e:=by
    rintro t ht rfl
    have:=List.contains_iff_mem.2 ht
    rw [this] at heb;cases heb
   simp only [step,yk] at h1 h2 ⊢
   split at h1
   case h_2=>cases h1
   rename_i v hv
   split at h1
   case isFalse=>cases h1
   rename_i hchk
   simp only [Option.some.injEq,put] at h1
   subst h1
   simp only [NZ] at h2 ⊢
   rw [Lk (s2:=s) fun t ht=>zS _ _ (hd' t ht)] at h2
   cases hc:UR D σ s f args bs' [] with
   | none=>rw [hc] at h2;cases h2
   | some p=>
     obtain ⟨hp,us,hl⟩:=zip hc
     obtain ⟨hl1,hl2⟩:=Ma hl
     rw [hc] at h2
     simp only [Option.map_some,Option.some.injEq,put] at h2 ⊢
     subst h2
     refine ⟨_,rfl,?_⟩
     obtain ⟨ks,lb,r⟩:=p
     simp only at hp hl hl1 hl2 ⊢
     have hsub:∀ b∈bs',∀ k∈(s b).toks,ks.contains k=true:=by
      intro b hb k hk
      rw [hp]
      exact List.contains_iff_mem.2 (List.mem_flatMap.2 ⟨b,hb,hk⟩)
     have hn:ks.contains .nl=false:=by
      cases hb:ks.contains .nl with
      | false=>rfl
      | true=>
        have:=List.contains_iff_mem.1 hb
        rw [hp] at this
        obtain ⟨b,_,hk⟩:=Um this
        exact absurd rfl (ZE _ _ hk).2
     have hlb:∀ en∈lb,ks.contains (.bx en.1)=true:=by
      intro en hen
      obtain ⟨b,hb,c,t',c',hs,_⟩:=hl1 en hen
      exact hsub b hb _ (by rw [hs];simp [V.toks])
     simp only [Bool.and_eq_true,List.all_eq_true,Bool.not_eq_true'] at hchk
     rw [← hp] at hchk
     have hfree:∀ t∈a.rds,upG ks lb (s t)=s t:=fun t ht=>zcC hn hlb fun k hk=>hchk.1 t ht k hk
     have hev:z8 (upd (fun t=>upG ks lb (s t)) e r) a=some v:=by
      rw [← hv]
      exact ur fun t ht=>by rw [zS _ _ (hea' t ht),hfree t ht]
     have hst:∀ k∈yo (upd (fun t=>upG ks lb (s t)) e r) bs',ks.contains k=true:=by
      intro k hk
      obtain ⟨b,hb,hkb⟩:=Um hk
      rw [zS _ _ (heb' b hb)] at hkb
      rcases UG (ks:=ks) (l:=lb) (s b) with ⟨en,hen,_,_,h⟩ | h
      · rw [h] at hkb
        obtain ⟨b1,_,c0,t',c',_,_,h6,h7⟩:=hl1 en hen
        rw [h7] at hkb
        obtain ⟨k0,h0,e0⟩:=XU (XC ks) rfl _ k hkb
        exact List.contains_iff_mem.2 (ZQ (ZE _ k0 h0).2 e0).1
      · rw [h] at hkb
        have hkk:=Jm (p:=fun k=>ks.contains k) hn hkb
        exact hsub b hb k hkk.1
     rw [hev]
     simp only
     rw [if_pos ?_]
     · simp only [Option.some.injEq,put]
       funext t
       by_cases e1:t=d
       · subst e1
         rw [upd_same,zS _ _ hde,upd_same]
         exact (zcC hn hlb fun k hk=>hchk.2 k hk).symm
       · rw [zS _ _ e1]
         by_cases e2:t=e
         · subst e2;rw [upd_same,upd_same]
         · rw [zS _ _ e2,zS _ _ e2,zS _ _ e1]
     · simp only [Bool.and_eq_true,List.all_eq_true,Bool.not_eq_true']
       have hno:∀ k,ks.contains k=false→(yo (upd (fun t=>upG ks lb (s t)) e r) bs').contains k=false:=by
        intro k hk
        cases hb:(yo (upd (fun t=>upG ks lb (s t)) e r) bs').contains k with
        | false=>rfl
        | true=>rw [hst k (List.contains_iff_mem.1 hb)] at hk;cases hk
       refine ⟨fun t ht k hk=>hno k (hchk.1 t ht k ?_),fun k hk=>hno k (hchk.2 k hk)⟩
       rw [zS _ _ (hea' t ht),hfree t ht] at hk
       exact hk
 · rename_i e l2 f args bs d l a
   simp only [Bool.and_eq_true,decide_eq_true_eq,Bool.not_eq_true'] at h
   obtain ⟨hd,hde,hae⟩:=h
   have hd':∀ t∈f.rds++args.flatMap O.rds++bs,t≠d:=by
    rintro t ht rfl
    have:=List.contains_iff_mem.2 ht
    rw [this] at hd;cases hd
   simp only [step,yk,NZ] at h1 h2 ⊢
   cases hc:UR D σ s f args bs [] with
   | none=>rw [hc] at h1;cases h1
   | some p=>
     rw [hc] at h1
     simp only [Option.map_some,Option.some.injEq,put] at h1
     subst h1
     simp only [z8,O.rd,O.ev] at h2 ⊢
     simp only [zS _ _ hae] at h2
     have hok:(s a).ok=true:=by
      by_cases hk:(upG p.1 p.2.1 (s a)).ok=true
      · rcases UG (ks:=p.1) (l:=p.2.1) (s a) with ⟨en,_,c,hs,_⟩ | h
        · rw [hs];rfl
        · rw [h] at hk
          cases hs:s a with
          | lin v=>rw [hs] at hk;simp [V.map,V.ok] at hk
          | gone=>rw [hs] at hk;simp [V.map,V.ok] at hk
          | _=>rfl
      · simp only [hk] at h2
        simp at h2
     simp only [hok,if_true,Option.map_some]
     refine ⟨_,rfl,?_⟩
     rw [Lk (s2:=s) fun t ht=>by simp only [put];exact zS _ _ (hd' t ht),hc]
     simp only [Option.map_some]
     by_cases hk:(upG p.1 p.2.1 (s a)).ok=true
     · simp only [hk,if_true,Option.map_some,Option.some.injEq,put] at h2 ⊢
       subst h2
       funext t
       by_cases e1:t=d
       · subst e1
         rw [zS _ _ hde,upd_same,upd_same]
       · rw [zS _ _ e1]
         by_cases e2:t=e
         · subst e2;rw [upd_same,upd_same]
         · rw [zS _ _ e2,zS _ _ e2,zS _ _ e1]
     · simp only [hk] at h2;simp at h2
 · cases h
def I.apart (i j:I):Bool:=i.apart1 j || i.apart2 j || i.apart3 j || i.apart4 j
theorem zf5 {D:Den} {σ:Sig} {s s1 s2:Nat→V} {i j:I} (h:i.apart j=true) (h1:step D σ s i=some s1) (h2:step D σ s1 j=some s2) :
    ∃ s1',step D σ s j=some s1'∧step D σ s1' i=some s2:=by
 unfold I.apart at h
 rw [Bool.or_eq_true,Bool.or_eq_true,Bool.or_eq_true] at h
 rcases h with ((h | h) | h) | h
 · exact zc2 h h1 h2
 · exact zdP h h1 h2
 · exact zdg h h1 h2
 · exact zdx h h1 h2
end Go.Zq
namespace Go.Zq
def X.isSt:X→Bool
 | .store ..=>true
 | _=>false
def X.toS:X→X
 | .app h x y=>.appS h x y
 | .call f as=>.mark f as
 | .mk n _ z0=>.mk n z0 z0
 | x=>x
def X.toO:X→X
 | .call f as=>.callO f as
 | x=>x
def X.toG (p:Nat):X→X
 | .call f as=>.callG f p as
 | x=>x
def X.toT (bs es:List Nat):X→X
 | .call f as=>.callT f as bs es
 | .v a=>.vN a bs
 | x=>x
def X.toK:X→X
 | .store h x y=>.storeK h x y
 | x=>x
def X.toLS:X→X
 | .lit z len ps=>.litS z len ps
 | x=>x
def ziM (e:Nat) (sp:List Nat) (i:Nat):List Nat:=sp.filterMap fun n=>if n / 500000=2 * (i + 1) + e then some (n % 500000) else none
def X.ann (sp:List Nat) (i:Nat) (x:X):X:=if sp.contains i then x.toS else if sp.contains (i + 1000) then x.toO else if sp.contains (i + 2000) then x.toG 0 else if sp.contains (i + 3000) then x.toG 1 else if sp.contains (i + 4000) then x.toG 2 else if sp.contains (i + 5000) then x.toK else if sp.contains (i + 6000) then x.toLS else match ziM 0 sp i with
 | []=>x
 | b :: bs=>x.toT (b :: bs) (ziM 1 sp i)
def cI (P:Program) (n:Nat) (ops:Array Oper) (lin sp:List Nat) (i:Nat):Option I:=
 match ops[i]? with
 | none=>none
 | some o=>match cX P o.op o.type with
   | none=>none
   | some x=>
     if (o.dst.all fun k=>decide (k < n)) && (!x.isSt || o.dst.isNone) then
      match o.guard with
      | none=>some ⟨o.dst,none,lin.contains i,x.ann sp i⟩
      | some (j,want)=>match (ops[j]?).bind (·.dst) with
        | some t=>some ⟨o.dst,some (t,want),lin.contains i,x.ann sp i⟩
        | none=>none
     else none
def cIs (P:Program) (n:Nat) (ops:Array Oper) (lin sp:List Nat):List Nat→Option (List I)
 | []=>some []
 | i :: is=>match cI P n ops lin sp i,cIs P n ops lin sp is with
   | some x,some xs=>some (x :: xs)
   | _,_=>none
section
variable {P:Program} {w0:Ori} {S0:Nat→Prop} {n:Nat} {s s':Nat→V} {a:Act} {w:World} {S:Nat→Prop} {τ:Tok→Blk}
theorem ziZ {D:Den} {σ:Sig} {d:Option Nat} {l:Bool} {h:Sh} {x y:O} (hst:yk D σ s d l (.appS h x y)=some s'):yk D σ s d l (.app h x y)=some s':=by
 simp only [yk] at hst ⊢
 cases hsp:ZA s x with
 | none=>rw [hsp] at hst;cases d <;> cases hst
 | some r=>rw [QN hsp];rw [hsp] at hst;exact hst
theorem zcX {a:Act} {t:Nat} {b:Bool} (h:a.eval (.tmp t) = .bool b):a.tmps[t]?=some (.bool b):=by
 simp only [Act.eval] at h
 cases hh:a.tmps[t]? with
 | none=>simp [hh,undef] at h
 | some v=>simp [hh] at h;rw [h]
theorem M3:zu w S τ (.tup []) undef:=by simp [zu,z6,undef]
theorem zcu {D:Den} {σ:Sig} (hF:zr P D σ) {ops:Array Oper} {lin sp:List Nat} {i:Nat} {x:I} (hc:cI P n ops lin sp i=some x) (hI:Inv w0 S0 n s a w S τ) (hst:step D σ s x=some s')
    {K:Act→World→Prop} {Q:Exit→Act→World→Prop} (hK:zao w0 S0 n s' K):wpOp P ops Q i K a w:=by
 unfold cI at hc
 unfold wpOp
 cases ho:ops[i]? with
 | none=>simp [ho] at hc
 | some o=>
   simp only [ho] at hc ⊢
   split at hc
   · cases hc
   · rename_i y hy
     split at hc
     · rename_i hdd
       simp only [Bool.and_eq_true] at hdd
       have hd:∀ k,o.dst=some k→k < n:=by
        intro k hk;have:=hdd.1;rw [hk] at this;simpa using this
       have go:∀ l,yk D σ s o.dst l (y.ann sp i)=some s'→o.wp P a w K Q:=by
        intro l h
        have h2:yk D σ s o.dst l y=some s'∨(∃ f as,y = .call f as∧(yk D σ s o.dst l (.mark f as)=some s'∨yk D σ s o.dst l (.callO f as)=some s'∨(∃ p,yk D σ s o.dst l (.callG f p as)=some s')∨∃ bs es,yk D σ s o.dst l (.callT f as bs es)=some s'))∨(∃ h x z,y = .store h x z∧yk D σ s o.dst l (.storeK h x z)=some s')∨(∃ z len ps,y = .lit z len ps∧yk D σ s o.dst l (.litS z len ps)=some s')∨∃ n0 z z0,y = .mk n0 z z0∧yk D σ s o.dst l (.mk n0 z0 z0)=some s':=by
         unfold X.ann at h
         split at h
         · cases y with
           | app h x y=>exact .inl (ziZ h)
           | call f as=>exact .inr (.inl ⟨f,as,rfl,.inl h⟩)
           | mk n0 z z0=>exact .inr (.inr (.inr (.inr ⟨n0,z,z0,rfl,h⟩)))
           | _=>exact .inl h
         · split at h
           · cases y with
             | call f as=>exact .inr (.inl ⟨f,as,rfl,.inr (.inl h)⟩)
             | _=>exact .inl h
           · split at h
             · cases y with
               | call f as=>exact .inr (.inl ⟨f,as,rfl,.inr (.inr (.inl ⟨0,h⟩))⟩)
               | _=>exact .inl h
             · split at h
               · cases y with
                 | call f as=>exact .inr (.inl ⟨f,as,rfl,.inr (.inr (.inl ⟨1,h⟩))⟩)
                 | _=>exact .inl h
               · split at h
                 · cases y with
                   | call f as=>exact .inr (.inl ⟨f,as,rfl,.inr (.inr (.inl ⟨2,h⟩))⟩)
                   | _=>exact .inl h
                 · split at h
                   · cases y with
                     | store g x z=>exact .inr (.inr (.inl ⟨g,x,z,rfl,h⟩))
                     | _=>exact .inl h
                   · split at h
                     · cases y with
                       | lit z len ps=>exact .inr (.inr (.inr (.inl ⟨z,len,ps,rfl,h⟩)))
                       | _=>exact .inl h
                     split at h
                     · exact .inl h
                     · rename_i b bs _
                       cases y with
                       | call f as=>exact .inr (.inl ⟨f,as,rfl,.inr (.inr (.inr ⟨b :: bs,_,h⟩))⟩)
                       | v a=>exact .inl (zvo h)
                       | _=>exact .inl h
        rcases h2 with h2 | ⟨f,as,rfl,h2⟩ | ⟨g,x,z,rfl,h2⟩ | ⟨z,len,ps,rfl,h2⟩ | ⟨n0,z,z0,rfl,h2⟩
        case inr.inr.inr.inl=>exact zhX hF hy hI hd h2 hK
        case inr.inr.inr.inr=>exact zg5 hy (.inr rfl) hI hd h2 hK
        case inr.inr.inl=>exact absurd h2 (by simp [yk])
        case inr.inl=>
         obtain ⟨fo,args,argTypes,e1,e2,e3⟩:=zka hy
         rcases h2 with h2 | h2 | ⟨p,h2⟩ | ⟨bs,es,h2⟩
         · exact absurd h2 (by simp [yk])
         · exact zb6 hF e1 e2 e3 hI hd (ob:=true) h2 hK
         · exact absurd h2 (by simp [yk])
         · exact zj5 hF e1 e2 e3 hI hd h2 hK
        refine zbR hF hy hI hd h2 ?_ hK
        intro g u z e
        subst e
        simpa [X.isSt] using hdd.2
       split at hc
       · rename_i hg
         simp only [Option.some.injEq] at hc;subst hc
         have hw:Region.wanted o (yielded ops a.tmps)=true:=by simp [Region.wanted,hg]
         simp only [hw,if_true]
         exact .inl (go _ hst)
       · rename_i j want hg
         split at hc
         · rename_i t ht
           simp only [Option.some.injEq] at hc;subst hc
           simp only [step] at hst
           split at hst
           · rename_i b hb
             have h1:=hI.told t
             rw [hb] at h1
             simp only [zu] at h1
             have h2:=zcX h1
             have hy:yielded ops a.tmps j=some b:=by simp [yielded,ht,h2]
             have hw:Region.wanted o (yielded ops a.tmps)=(b == want):=by
              simp [Region.wanted,hg,hy]
             rw [hw]
             split at hst
             · rename_i e;subst e;simp;exact .inl (go _ hst)
             · rename_i e
               have:(b == want)=false:=by simp [e]
               simp only [this]
               simp only [Option.some.injEq] at hst;subst hst
               exact hK _ _ S τ (hI.putVal M3 (Xr rfl) rfl o.dst hd)
           · rename_i hb
             have h1:=hI.told t
             rw [hb] at h1
             have hy:yielded ops a.tmps j=none:=by
              unfold yielded
              simp only [ht,Option.bind_some]
              cases h2:a.tmps[t]? with
              | none=>rfl
              | some v=>
                have h3:a.eval (.tmp t)=v:=by simp [Act.eval,h2]
                rw [h3] at h1
                cases v <;> first | rfl | (simp [zu] at h1)
             have hw:Region.wanted o (yielded ops a.tmps)=false:=by
              simp [Region.wanted,hg,hy]
             simp only [hw]
             simp only [Option.some.injEq] at hst;subst hst
             exact hK _ _ S τ (hI.putVal M3 (Xr rfl) rfl o.dst hd)
           · cases hst
         · cases hc
     · cases hc
theorem NO {D:Den} {σ:Sig} (hF:zr P D σ) {ops:Array Oper} {lin sp:List Nat} {Q:Exit→Act→World→Prop}:∀ (is:List Nat) (xs:List I) (s:Nat→V) (a:Act) (w:World) (S:Nat→Prop) (τ:Tok→Blk),
    cIs P n ops lin sp is=some xs→Inv w0 S0 n s a w S τ→YX D σ xs s=some s'→zao w0 S0 n s' (Q .normal)→wpOps P ops Q is a w
 | [],xs,s,a,w,S,τ,hc,hI,hst,hK=>by
   simp only [cIs,Option.some.injEq] at hc;subst hc
   simp only [YX,Option.some.injEq] at hst;subst hst
   exact hK _ _ _ _ hI
 | i :: is,xs,s,a,w,S,τ,hc,hI,hst,hK=>by
   simp only [cIs] at hc
   split at hc
   · rename_i x xs' hx hxs
     simp only [Option.some.injEq] at hc;subst hc
     simp only [YX] at hst
     split at hst
     · rename_i s1 hs1
       rw [wpOps_cons]
       exact zcu hF hx hI hs1 fun a' w' S' τ' hI'=>NO hF is xs' s1 a' w' S' τ' hxs hI' hst hK
     · cases hst
   · cases hc
end
theorem Lu {D:Den} {σ:Sig} {i:I}:∀ (pre post:List I) (s s':Nat→V),(∀ j∈pre,j.apart i=true)→YX D σ (pre++i :: post) s=some s' →
    ∃ s1,step D σ s i=some s1∧YX D σ (pre++post) s1=some s'
 | [],post,s,s',_,h=>by
   simp only [List.nil_append,YX] at h
   split at h
   · rename_i s1 h1;exact ⟨s1,h1,h⟩
   · cases h
 | j :: pre,post,s,s',ha,h=>by
   simp only [List.cons_append,YX] at h
   split at h
   · rename_i sj hj
     obtain ⟨t,h1,h2⟩:=Lu pre post sj s' (fun k hk=>ha k (by simp [hk])) h
     obtain ⟨u,h3,h4⟩:=zf5 (ha j (by simp)) hj h1
     exact ⟨u,h3,by simp only [List.cons_append,YX,h4];exact h2⟩
   · cases h
end Go.Zq
