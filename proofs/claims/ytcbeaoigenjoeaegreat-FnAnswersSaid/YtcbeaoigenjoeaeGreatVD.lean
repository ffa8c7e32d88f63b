/- A verified symbolic evaluator, part D. -/
import Derived.Test.YtcbeaoigenjoeaeGreatVC
namespace Go.Proofs.YtcbeaoigenjoeaeGreat
namespace V
set_option linter.unusedSimpArgs false
set_option linter.unusedVariables false
section
variable {P:Program} {E:Env} {F:Fr} {c:Cc} {w:World} {R:Cls} {σ:St} {a:Act} {site:Nat} {o:Oper} {d:D}
theorem capAs_some {H:Hp}{n:Nat}{t:LTy}{x:t.den}(h:capAs H n t=some x):∃T,∃y:T.den,∃ls,t.sg x= .ptr T y∧look H n=some (.box ls)∧frzRs H T ls=some y:=by
 cases t with
 |ptr T=>
  have h:frzB H T n=some x:=h
  unfold frzB at h
  split at h
  ·rename_i ls hl
   exact⟨T,x,ls,rfl,hl,h⟩
  ·exact no h
 |_=>exact no h
theorem boxRefs_one {H:Hp}{n:Nat}{ls:List Lf}(h:look H n=some (.box ls)):boxRefs H [n]=refsOf ls:=by
 unfold boxRefs
 rw[h]
 simp[boxRefs]
theorem boxRefs_mem {H:Hp}{m:Nat}:∀{ns:List Nat} {n:Nat} {ls:List Lf},n∈ns→look H n=some (.box ls)→m∈refsOf ls→m∈boxRefs H ns
 |k::ns,n,ls,hn,hl,hm=>by
  unfold boxRefs
  rcases List.mem_cons.1 hn with rfl|hn
  ·rw[hl]
   exact List.mem_append.2 (.inl hm)
  ·exact List.mem_append.2 (.inr (boxRefs_mem hn hl hm))
theorem box_ro (h:Rel F c w R σ a){R0:Cls}(hR:∀b,R b→R0 b){n:Nat}{T:ETy}{y:T.den}{ls:List Lf}(hl:look σ.heap n=some (.box ls))(hf:frzRs σ.heap T ls=some y)
 (hn:∀b∈c.fp n,R0 b) (hr:∀m e,m∈refsOf ls→look σ.heap m=some e→∀b∈c.fp m,R0 b) {b:Nat} (hb:c.at_ n=some (b,0)):R0 b∧ETy.ro w R0 T y b 0:=by
 obtain⟨b',vs,e,h1,h2,h3,h4⟩:=h.hp n _ hl
 rw[hb]at h1
 cases h1
 refine⟨hn b (by rw[h2];simp),?_⟩
 have hv:=frzRs_vals h hR T ls y _ (fun l hm m e hs hle k hk=>hr m e (says_refss T ls y hf l hm hs) hle k hk) hf h4
 rw[ETy.ro_iff]
 intro j g hg
 obtain⟨u,hu,hq⟩:=hv.get j g hg
 refine⟨u,?_,hq⟩
 unfold World.cell?
 rw[show(⟨b,0+j,none⟩:Addr).block=b from rfl,h3]
 simpa using hu
theorem cap_ro (h:Rel F c w R σ a){R0:Cls}(hR:∀b,R b→R0 b){n:Nat}{t:LTy}{x:t.den}{v:Value}(hf:capAs σ.heap n t=some x)
 (hfp:∀m e,m=n∨m∈boxRefs σ.heap [n]→look σ.heap m=some e→∀b∈c.fp m,R0 b) (hv:∀ls,look σ.heap n=some (.box ls)→∃b,c.at_ n=some (b,0)∧v= .pointer (some ⟨b,0,none⟩)):(t.sg x).ro w R0 v:=by
 obtain⟨T,y,ls,hx,hl,hf⟩:=capAs_some hf
 obtain⟨b,hb,rfl⟩:=hv ls hl
 rw[hx]
 obtain⟨h1,h2⟩:=box_ro h hR hl hf (fun b hb=>hfp n _ (.inl rfl) hl b hb) (fun m e hm=>hfp m e (.inr (boxRefs_mem (by simp) hl hm))) hb
 exact⟨b,0,rfl,h1,h2⟩
theorem caps_ro (h:Rel F c w R σ a){R0:Cls}(hR:∀b,R b→R0 b):∀(B:ETy) (ns:List Nat) (x:B.den) (vs:List Value),frzCaps σ.heap B ns=some x→
 (∀m e,m∈ns∨m∈boxRefs σ.heap ns→look σ.heap m=some e→∀b∈c.fp m,R0 b)→capsRel c σ.heap ns vs→All2 (Sg.ro w R0) (B.sgs x) vs
 | .nil,ns,x,vs,hf,hfp,hv=>by
   cases ns with
   |nil=>
    cases vs with
    |nil=>trivial
    |cons _ _=>exact hv.elim
   |cons _ _=>exact no hf
 | .cons t .nil,ns,x,vs,hf,hfp,hv=>by
   match ns,vs,hf,hv with
   |[n],[v],hf,hv=>exact⟨cap_ro h hR hf (fun m e hm=>hfp m e (by rcases hm with rfl|hm;exact .inl (by simp);exact .inr hm)) hv.1,trivial⟩
   |[],_,hf,_=>exact no hf
   |_::_::_,_,hf,_=>exact no hf
   |[_],[],_,hv=>exact hv.elim
   |[_],_::_::_,_,hv=>exact hv.2.elim
 | .cons t (.cons u ts),ns,x,vs,hf,hfp,hv=>by
   match ns,vs,hf,hv with
   |n::r,v::vs,hf,hv=>
    have hf:(match capAs σ.heap n t,frzCaps σ.heap (.cons u ts) r with|some x,some y=>some (x,y)|_,_=>none)=some x:=hf
    split at hf
    ·rename_i x1 y1 h1 h2
     have hf:=Option.some.inj hf
     subst hf
     refine⟨cap_ro h hR h1 (fun m e hm=>hfp m e ?_) hv.1,caps_ro h hR (.cons u ts) r y1 vs h2 (fun m e hm=>hfp m e ?_) hv.2⟩
     ·rcases hm with rfl|hm
      ·exact .inl (by simp)
      ·right
       unfold boxRefs
       have:boxRefs σ.heap [n]=(match look σ.heap n with|some (.box ls)=>refsOf ls|_=>[])++[]:=rfl
       rw[this,List.append_nil]at hm
       exact List.mem_append.2 (.inl hm)
     ·rcases hm with hm|hm
      ·exact .inl (by simp[hm])
      ·right
       unfold boxRefs
       exact List.mem_append.2 (.inr hm)
    ·exact no hf
   |[],_,hf,_=>exact no hf
   |_::_,[],_,hv=>exact hv.elim
theorem frz_ro (h:Rel F c w R σ a){R0:Cls}(hR:∀b,R b→R0 b){t:LTy}{l:Lf}{x:t.den}{v:Value}(hfp:∀n e,n∈deepNames σ.heap l→look σ.heap n=some e→∀b∈c.fp n,R0 b)
 (hf:frz σ.heap t l=some x) (hv:l.rel c w R σ.heap v):(t.sg x).ro w R0 v:=by
 cases l with
 |ptr n off=>
  cases off with
  |succ off=>exact no hf
  |zero=>
   have hf:capAs σ.heap n t=some x:=hf
   exact cap_ro h hR hf (fun m e hm=>hfp m e (by simpa [deepNames]using hm)) hv
 |rptr p off=>
  cases off with
  |succ off=>exact no hf
  |zero=>
   have hf:pkAs p t=some x:=hf
   cases t with
   |ptr T=>
    have hf:ETy.cast? p.T T p.x=some x:=hf
    obtain⟨e,hx⟩:=ETy.cast?_some hf
    obtain⟨T',y⟩:=p
    simp only at e hx
    subst e
    have hx:y=x:=hx
    subst hx
    obtain⟨b,o,rfl,hb,hro⟩:=hv
    exact⟨b,o,rfl,hR b hb,ETy.ro_same (fun _ _=>rfl) hR _ _ _ _ rfl hro⟩
   |_=>exact no hf
 |fnl f caps=>
  have hf:fnAs σ.heap f caps t=some x:=hf
  cases t with
  |fn f' g A B=>
   by_cases hff:f'=f
   ·subst hff
    cases g with
    |true=>simp[fnAs]at hf
    |false=>
     cases A with
     |cons _ _=>simp[fnAs]at hf
     |nil=>
      simp only[fnAs,decide_true]at hf
      split at hf
      ·rename_i y hy
       have hf:=Option.some.inj hf
       subst hf
       obtain⟨vs,rfl,hc⟩:=hv
       have hvs:=caps_ro h hR B caps y vs hy (fun m e hm=>hfp m e (by simpa [deepNames]using hm)) hc
       exact⟨[],vs.toArray,rfl,rfl,(ETy.vals_iff B y _).2 (by simpa using hvs)⟩
      ·exact no hf
   ·simp[fnAs,hff]at hf
  |_=>exact no hf
 |nil0=>exact frzR_ro (l:= .nil0) h hR (fun n e hs=>by simp[Lf.says]at hs) (show frzR σ.heap t _=some x from hf) hv
 |val g=>exact frzR_ro (l:= .val g) h hR (fun n e hs=>by simp[Lf.says]at hs) (show frzR σ.heap t _=some x from hf) hv
 |ref n=>exact frzR_ro (l:= .ref n) h hR (fun m e hs=>hfp m e (by simp only[Lf.says]at hs;simp[deepNames,Lf.names,Nat.eq_of_beq_eq_true hs])) (show frzR σ.heap t _=some x from hf) hv
 |pref n i j=>exact frzR_ro (l:= .pref n i j) h hR (fun m e hs=>hfp m e (by simp only[Lf.says]at hs;simp[deepNames,Lf.names,Nat.eq_of_beq_eq_true hs])) (show frzR σ.heap t _=some x from hf) hv
 |eptr n i j=>exact no hf
 |nilp=>exact no hf
 |dead=>exact no hf
end
def ioMd (ow:Bool):Sg→Md
 | .ptr .. => .box ow
 |_=> .own
theorem ETy.beq_eq {a b:ETy}(h:a.beq b=true):a=b:=ETy.eq_of_beq a b h
def ioMo (ow:Bool):Sg→Md
 | .ptr .. => .box ow
 | .sl .. =>(match ow with|true=> .gone|false=> .own)
 |_=> .own
inductive Held (c:Cc)(w:World)(σ:St)(ow:Bool):Lf→Value→List Nat→Prop where
 |ref (n:Nat) (v:Value):Held c w σ ow (.ref n) v (c.fp n)
 |pref (n i j:Nat) (v:Value) (f:List Nat) (T:ETy) (xs:List T.den) (hi:i<xs.length) (b o:Nat) (v1 v2 v3:List Value) (f1 fa fb f3:List Nat):look σ.heap n=some (.row T true xs)→c.at_ n=some (b,o)→j<T.len→
  c.fp n=b::(f1++((fa++(f++fb))++f3))→blk w b (o+xs.length*T.len)→cellsAt w b o (v1++(v2++v3))→ownVals w (flatG T (xs.take i)) v1 f1→v2[j]? =some v→ownVals w ((T.sgs xs[i]).take j) (v2.take j) fa→ownVals w ((T.sgs xs[i]).drop (j+1)) (v2.drop (j+1)) fb→
  ownVals w (flatG T (xs.drop (i+1))) v3 f3→Held c w σ ow (.pref n i j) v f
 |box (n b:Nat) (old:List Lf):look σ.heap n=some (.box old)→c.at_ n=some (b,0)→Held c w σ ow (.ptr n 0) (.pointer (some ⟨b,0,none⟩)) (b::(match ow with|true=>lsFp c old|false=>[]))
def named (c:Cc)(σ:St)(ns:List Nat)(b:Nat):Prop:=∃m e,m∈ns∧look σ.heap m=some e∧b∈c.fp m
section
variable {P:Program} {E:Env} {F:Fr} {c:Cc} {w:World} {R:Cls} {σ:St} {a:Act} {site:Nat} {o:Oper} {d:D}
inductive IoArg (σ:St)(ow:Bool):Lf→Sg→Prop where
 |ref (n:Nat) (T:ETy) (xs0 xs:List T.den):look σ.heap n=some (.row T true xs0)→prefFree n none σ=true→IoArg σ ow (.ref n) (.sl T xs)
 |pref (n i j:Nat) (T U:ETy) (xs:List T.den) (x:T.den) (ys:List U.den):look σ.heap n=some (.row T true xs)→setSg T (xs.getD i T.dflt) j (.sl U ys)=some x→IoArg σ ow (.pref n i j) (.sl U ys)
 |box (n:Nat) (T:ETy) (x:T.den) (old:List Lf):look σ.heap n=some (.box old)→(ow=true→ownLs σ.heap old=true∧(refsOf old).Nodup)→(ow=false→keepLs T old=true)→IoArg σ ow (.ptr n 0) (.ptr T x)
theorem ioSet_arg {p:Nat}{ow:Bool}{l:Lf}{g:Sg}{r:Hp×Hp×List Nat}(h:ioSet σ site p ow l g=some r):IoArg σ ow l g:=by
 rw[ioSet_eq]at h
 unfold ioSet0 at h
 split at h
 ·split at h
  ·rename_i hl hp
   split at h
   ·rename_i hT
    have:=ETy.beq_eq hT
    subst this
    exact .ref _ _ _ _ hl hp
   ·exact no h
  ·exact no h
 ·split at h
  ·rename_i hl
   split at h
   ·rename_i hs
    exact .pref _ _ _ _ _ _ _ _ hl (noOw_some hs).2
   ·exact no h
  ·exact no h
 ·split at h
  ·rename_i hl
   cases ow with
   |true=>
    simp only at h
    split at h
    ·rename_i hg
     simp only[Bool.and_eq_true]at hg
     exact .box _ _ _ _ hl (fun _=>⟨hg.1,(nodup_iff _).1 hg.2⟩) (fun e=>by cases e)
    ·exact no h
   |false=>
    simp only at h
    split at h
    ·rename_i hk
     exact .box _ _ _ _ hl (fun e=>by cases e) (fun _=>hk)
    ·exact no h
  ·exact no h
 ·exact no h
theorem ownVals_at {w:World}:∀{gs:List Sg} {vs:List Value} {f:List Nat} {j:Nat} {g:Sg},ownVals w gs vs f→gs[j]? =some g→∃v fa fj fb,vs[j]? =some v∧f=fa++(fj++fb)∧g.own w v fj∧ownVals w (gs.take j) (vs.take j) fa∧ownVals w (gs.drop (j+1)) (vs.drop (j+1)) fb
 |x::gs,u::vs,f,0,g,h,hg=>by
  obtain⟨f1,f2,rfl,h1,h2⟩:=h
  simp at hg
  subst hg
  exact⟨u,[],f1,f2,rfl,rfl,h1,rfl,h2⟩
 |x::gs,u::vs,f,j+1,g,h,hg=>by
  obtain⟨f1,f2,rfl,h1,h2⟩:=h
  obtain⟨v,fa,fj,fb,h3,rfl,h4,h5,h6⟩:=ownVals_at h2 (by simpa using hg)
  exact⟨v,f1++fa,fj,fb,by simpa using h3,by simp,h4,⟨f1,fa,rfl,h1,h5⟩,h6⟩
 |[],[],_,j,_,_,hg=>by simp at hg
 |[],_::_,_,_,_,h,_=>h.elim
 |_::_,[],_,_,_,h,_=>h.elim
theorem sub_nodup {α:Type}{a b c:List α}(h:(a++(b++c)).Nodup):b.Nodup:=by
 rw[List.nodup_append,List.nodup_append]at h
 exact h.2.1.1
theorem io_arg (h:Rel F c w R σ a){R0:Cls}(hR:∀b,R b→R0 b){ow:Bool}{t:LTy}{l:Lf}{x:t.den}{v:Value}{g:Sg}(hio:IoArg σ ow l g)(hf:frz σ.heap t l=some x)(hv:l.rel c w R σ.heap v)
 (hfp:∀n e,n∈roName σ.heap (some ow) l→look σ.heap n=some e→∀b∈c.fp n,R0 b):
 ∃f,(t.sg x).rel w R0 (ioMd ow (t.sg x)) v f∧f.Nodup∧(∀b∈f,∃m e,m∈wrName σ.heap (some ow) l∧look σ.heap m=some e∧b∈c.fp m)∧Held c w σ ow l v f:=by
 cases hio with
 |ref n T xs0 xs hl hp=>
  have hf:frzR σ.heap t (.ref n)=some x:=hf
  obtain⟨T',dd,ys,hl',hx⟩:=refAs_some hf
  have hown:=frzR_own h hf (by simp only[ownL,hl]) hv
  refine⟨c.fp n,?_,h.nd n _ hl,fun b hb=>⟨n,_,by simp[wrName,Lf.names],hl,hb⟩, .ref n v⟩
  rw[hx]at hown⊢
  exact hown
 |pref n i j T U xs x' ys hl hs=>
  have hf:frzR σ.heap t (.pref n i j)=some x:=hf
  obtain⟨_,hi,hj,b,o,hb,hcell⟩:=hv T true xs hl
  obtain⟨v1,v2,v3,f1,f2,f3,hfpn,hbk,hat,hc1,hc2,hc3⟩:=row_split h hl hi hb
  have hgetD:xs.getD i T.dflt=xs[i]:=by simp[List.getD,hi]
  have hpart:partOf σ.heap n i j=(T.sgs xs[i])[j]? :=by
   unfold partOf
   rw[hl]
   simp only
   rw[hgetD]
  have hf:(match partOf σ.heap n i j with|some g=>t.get g|none=>none)=some x:=hf
  rw[hpart]at hf
  rw[hgetD]at hs
  obtain⟨hsg,g0,hg0,hgt⟩:=setSg_sgs T xs[i] j (.sl U ys) x' hs
  rw[hg0]at hf
  have hg:t.sg x=g0:=LTy.get_sg hf
  obtain⟨u,fa,fj,fb,hu,hf2,hown,hoa,hob⟩:=ownVals_at hc2 hg0
  have hl1:v1.length=i*T.len:=by rw[←contV_length hc1,flatG_length,List.length_take,Nat.min_eq_left (by omega)]
  have huv:u=v:=by
   have h2:=(cellsAt_append.1 (cellsAt_append.1 hat).2).1 j u hu
   rw[hl1]at h2
   rw[h2]at hcell
   exact Option.some.inj hcell
  subst huv
  have hnd:=h.nd n _ hl
  rw[hfpn,List.nodup_cons]at hnd
  have hf2nd:=sub_nodup hnd.2
  rw[hf2]at hf2nd
  refine⟨fj,?_,sub_nodup hf2nd,fun k hk=>⟨n,_,by simp[wrName,Lf.names],hl,by rw[hfpn,hf2];simp[hk]⟩, .pref n i j u fj T xs hi b o v1 v2 v3 f1 fa fb f3 hl hb hj (by rw[hfpn,hf2]) hbk hat hc1 hu hoa hob hc3⟩
  rw[hg]
  have hm:ioMd ow g0= .own:=by
   cases g0<;>simp[Sg.t]at hgt
   rfl
  rw[hm]
  exact hown
 |box n T x' old hl how=>
  have hf:capAs σ.heap n t=some x:=hf
  obtain⟨T',y,ls,hx,hl',hf⟩:=capAs_some hf
  rw[hl]at hl'
  cases hl'
  rw[hx]
  obtain⟨b,hb,rfl⟩:=hv old hl
  obtain⟨b',vs,e,h1,h2,h3,h4⟩:=h.hp n _ hl
  rw[hb]at h1
  cases h1
  have hsz:vs.size=T'.len:=by
   have:=h4.length
   rw[frzRs_len T' old y hf]at this
   simpa using this.symm
  have hat:cellsAt w b 0 vs.toList:=by
   intro j u hu
   unfold World.cell?
   rw[show(⟨b,0+j,none⟩:Addr).block=b from rfl,h3]
   simpa using hu
  cases ow with
  |true=>
   obtain⟨ho,hnd⟩:=how rfl
   have hbl:=lsFp_blocks h ho
   refine⟨b::lsFp c old,⟨b,vs,e,lsFp c old,rfl,h3,hsz,rfl,vals_cellsOwn hat (frzRs_ownV h T' old y _ hf ho h4)⟩,?_,?_, .box n b old hl hb⟩
   ·refine List.nodup_cons.2 ⟨fun hk=> ?_,lsFp_nodup h ho hnd⟩
    obtain⟨m,hm,hbm⟩:=lsFp_mem hk
    obtain⟨T2,xs2,hl2⟩:=ownLs_live ho hm
    have hne:n≠m:=by rintro rfl;rw[hl]at hl2;cases hl2
    exact h.dj n _ m _ hne hl hl2 b (by rw[h2];simp) hbm
   ·intro k hk
    rcases List.mem_cons.1 hk with rfl|hk
    ·exact⟨n,_,by simp[wrName],hl,by rw[h2];simp⟩
    ·obtain⟨_,m,e',h5,h6,h7⟩:=hbl k hk
     refine⟨m,e',?_,h5,h7⟩
     simp only[wrName,boxRefs_one hl]
     simp[h6]
  |false=>
   refine⟨[b],⟨b,vs,e,rfl,h3,hsz,rfl,vals_cellsRo hat ?_⟩,by simp,fun k hk=> ?_, .box n b old hl hb⟩
   ·exact frzRs_vals h hR T' old y _ (fun l hm m e hs hle k hk=>hfp m e (by simp only[roName,boxRefs_one hl];exact says_refss T' old y hf l hm hs) hle k hk) hf h4
   ·simp at hk
    subst hk
    exact⟨n,_,by simp[wrName],hl,by rw[h2];simp⟩
theorem frzs_all {H:Hp}:∀(A:ETy) (ls:List Lf) (x:A.den),frzs H A ls=some x→All2 (fun(g:Sg) l=>∃(t:LTy) (y:t.den),g=t.sg y∧frz H t l=some y) (A.sgs x) ls
 | .nil,ls,x,hf=>by
   cases ls with
   |nil=>trivial
   |cons _ _=>exact no hf
 | .cons t .nil,ls,x,hf=>by
   match ls,hf with
   |[l],hf=>exact⟨⟨t,x,rfl,hf⟩,trivial⟩
   |[],hf=>exact no hf
   |_::_::_,hf=>exact no hf
 | .cons t (.cons u ts),ls,x,hf=>by
   match ls,hf with
   |l::r,hf=>
    have hf:(match frz H t l,frzs H (.cons u ts) r with|some x,some y=>some (x,y)|_,_=>none)=some x:=hf
    split at hf
    ·rename_i x1 y1 h1 h2
     have hf:=Option.some.inj hf
     subst hf
     exact⟨⟨t,x1,rfl,h1⟩,frzs_all (.cons u ts) r y1 h2⟩
    ·exact no hf
   |[],hf=>exact no hf
theorem wrNames_mem {H:Hp}{io:List (Nat×Bool)}{ow:Bool}{l:Lf}{m:Nat}:∀{ls:List Lf} {p q:Nat},look io (p+q)=some ow→ls[q]? =some l→m∈wrName H (some ow) l→m∈wrNames H io p ls
 |x::ls,p,0,h1,h2,h3=>by
  simp at h2
  subst h2
  exact List.mem_append.2 (.inl (by rw[show look io p=some ow from h1];exact h3))
 |x::ls,p,q+1,h1,h2,h3=>List.mem_append.2 (.inr (wrNames_mem (p:=p+1) (q:=q) (by rw[show p+1+q=p+(q+1) by omega];exact h1) (by simpa using h2) h3))
 |[],p,q,_,h2,_=>by simp at h2
theorem args_rel (h:Rel F c w R σ a){R0:Cls}(hR:∀b,R b→R0 b){io:List (Nat×Bool)}:∀{gs:List Sg} {ls:List Lf} {vs:List Value} {p:Nat},
 All2 (fun(g:Sg) l=>∃(t:LTy) (y:t.den),g=t.sg y∧frz σ.heap t l=some y) gs ls→All2 (Lf.rel c w R σ.heap) ls vs→
 (∀q ow l,look io (p+q)=some ow→ls[q]? =some l→∃g,IoArg σ ow l g)→(wrNames σ.heap io p ls).Nodup→(∀n e,n∈roNames σ.heap io p ls→look σ.heap n=some e→∀b∈c.fp n,R0 b)→
 ∃fp,relAll w R0 (argMds io p gs) vs fp∧fp.Nodup∧(∀b∈fp,∃m e,m∈wrNames σ.heap io p ls∧look σ.heap m=some e∧b∈c.fp m)∧
  ∀q ow l v,look io (p+q)=some ow→ls[q]? =some l→vs[q]? =some v→∃f,Held c w σ ow l v f∧(∀b∈f,b∈fp)∧∀b∈fp,named c σ (wrName σ.heap (some ow) l) b→b∈f
 |[],[],[],p,_,_,_,_,_=>⟨[],rfl,List.nodup_nil,fun b hb=>(by cases hb),fun q ow l v _ hl=>(by simp at hl)⟩
 |g::gs,l::ls,v::vs,p,hf,hv,hio,hnd,hfp=>by
  simp only[wrNames]at hnd
  simp only[roNames]at hfp
  rw[List.nodup_append]at hnd
  obtain⟨fp,h1,h2,h3,h13⟩:=args_rel h hR (p:=p+1) hf.2 hv.2 (fun q ow l' hq hl'=>hio (q+1) ow l' (by rw[show p+(q+1)=p+1+q by omega];exact hq) (by simpa using hl')) hnd.2.1 (fun n e hn=>hfp n e (List.mem_append.2 (.inr hn)))
  obtain⟨t,y,rfl,hfz⟩:=hf.1
  have tail:∀q ow l' v',look io (p+(q+1))=some ow→ls[q]? =some l'→vs[q]? =some v'→∃f,Held c w σ ow l' v' f∧(∀b∈f,b∈fp)∧(∀b∈fp,named c σ (wrName σ.heap (some ow) l') b→b∈f)∧∀m∈wrName σ.heap (some ow) l',m∈wrNames σ.heap io (p+1) ls:=by
   intro q ow l' v' h4 h5 h6
   have h4':look io (p+1+q)=some ow:=by rw[show p+1+q=p+(q+1) by omega];exact h4
   obtain⟨f,k1,k2,k3⟩:=h13 q ow l' v' h4' h5 h6
   exact⟨f,k1,k2,k3,fun m hm=>wrNames_mem h4' h5 hm⟩
  cases hz:look io p with
  |none=>
   refine⟨fp,⟨[],fp,rfl,?_,h1⟩,h2,fun b hb=> ?_,fun q ow l' v' h4 h5 h6=> ?_⟩
   ·rw[hz]
    exact⟨frz_ro h hR (fun n e hn=>hfp n e (List.mem_append.2 (.inl (by rw[hz];exact hn)))) hfz hv.1,rfl⟩
   ·obtain⟨m,e,h4,h5⟩:=h3 b hb
    exact⟨m,e,List.mem_append.2 (.inr h4),h5⟩
   ·cases q with
    |zero=>rw[Nat.add_zero,hz]at h4;cases h4
    |succ q=>
     obtain⟨f,k1,k2,k3,_⟩:=tail q ow l' v' h4 (by simpa using h5) (by simpa using h6)
     exact⟨f,k1,k2,k3⟩
  |some ow=>
   obtain⟨g',hg'⟩:=hio 0 ow l (by simpa using hz) rfl
   obtain⟨f,h4,h5,h6,h66⟩:=io_arg h hR hg' hfz hv.1 (fun n e hn=>hfp n e (List.mem_append.2 (.inl (by rw[hz];exact hn))))
   have apart:∀k m e1 m' e2,m∈wrName σ.heap (some ow) l→look σ.heap m=some e1→k∈c.fp m→m'∈wrNames σ.heap io (p+1) ls→look σ.heap m'=some e2→k∈c.fp m'→False:=by
    intro k m e1 m' e2 h7 h8 h9 h10 h11 h12
    have hne:m≠m':=by
     rintro rfl
     exact hnd.2.2 m (by rw[hz];exact h7) m h10 rfl
    exact h.dj m e1 m' e2 hne h8 h11 k h9 h12
   refine⟨f++fp,⟨f,fp,rfl,?_,h1⟩,?_,fun b hb=> ?_,fun q ow' l' v' k4 k5 k6=> ?_⟩
   ·rw[hz]
    exact h4
   ·rw[List.nodup_append]
    refine⟨h5,h2,fun k hk k' hk' e=> ?_⟩
    subst e
    obtain⟨m,e1,h7,h8,h9⟩:=h6 k hk
    obtain⟨m',e2,h10,h11,h12⟩:=h3 k hk'
    exact apart k m e1 m' e2 h7 h8 h9 h10 h11 h12
   ·rcases List.mem_append.1 hb with hb|hb
    ·obtain⟨m,e,h7,h8⟩:=h6 b hb
     exact⟨m,e,List.mem_append.2 (.inl (by rw[hz];exact h7)),h8⟩
    ·obtain⟨m,e,h7,h8⟩:=h3 b hb
     exact⟨m,e,List.mem_append.2 (.inr h7),h8⟩
   ·cases q with
    |zero=>
     rw[Nat.add_zero,hz]at k4
     cases k4
     simp at k5 k6
     subst k5;subst k6
     refine⟨f,h66,fun b hb=>List.mem_append.2 (.inl hb),fun b hb hn=> ?_⟩
     rcases List.mem_append.1 hb with hb|hb
     ·exact hb
     ·obtain⟨m,e1,h7,h8,h9⟩:=hn
      obtain⟨m',e2,h10,h11,h12⟩:=h3 b hb
      exact(apart b m e1 m' e2 h7 h8 h9 h10 h11 h12).elim
    |succ q=>
     obtain⟨f2,q1,q2,q3,q4⟩:=tail q ow' l' v' k4 (by simpa using k5) (by simpa using k6)
     refine⟨f2,q1,fun b hb=>List.mem_append.2 (.inr (q2 b hb)),fun b hb hn=> ?_⟩
     rcases List.mem_append.1 hb with hb|hb
     ·obtain⟨m,e1,h7,h8,h9⟩:=h6 b hb
      obtain⟨m',e2,h10,h11,h12⟩:=hn
      exact(apart b m e1 m' e2 h7 h8 h9 (q4 m' h10) h11 h12).elim
     ·exact q3 b hb hn
 |[],_::_,_,_,hf,_,_,_,_=>hf.elim
 |_::_,[],_,_,hf,_,_,_,_=>hf.elim
 |[],[],_::_,_,_,hv,_,_,_=>hv.elim
 |_::_,_::_,[],_,_,hv,_,_,_=>hv.elim
end
abbrev Zs :=List (Nat×Option (Nat×Nat)×List Nat)
def fpsOf :Zs→List Nat
 |[]=>[]
 |z::r=>z.2.2++fpsOf r
def okZ (c':Cc)(Z:Zs):Prop:=∀z∈Z,c'.at_ z.1=z.2.1∧c'.fp z.1=z.2.2
def okH (H':Hp)(L:Hp):Prop:=∀p∈L,look H' p.1=some p.2
theorem fpsOf_append :∀(Z Y:Zs),fpsOf (Z++Y)=fpsOf Z++fpsOf Y
 |[],Y=>rfl
 |z::Z,Y=>by simp[fpsOf,fpsOf_append Z Y]
theorem fpsOf_mem {b:Nat}:∀{Z:Zs},b∈fpsOf Z→∃z∈Z,b∈z.2.2
 |z::Z,h=>by
  rcases List.mem_append.1 h with h|h
  ·exact⟨z,by simp,h⟩
  ·obtain⟨z',h1,h2⟩:=fpsOf_mem h
   exact⟨z',by simp[h1],h2⟩
theorem okZ_append {c':Cc}{Z Y:Zs}(h:okZ c' (Z++Y)):okZ c' Z∧okZ c' Y:=⟨fun z hz=>h z (by simp[hz]),fun z hz=>h z (by simp[hz])⟩
theorem okH_append {H' L M:Hp}(h:okH H' (L++M)):okH H' L∧okH H' M:=⟨fun z hz=>h z (by simp[hz]),fun z hz=>h z (by simp[hz])⟩
theorem keys_append :∀(L M:Hp),keys (L++M)=keys L++keys M
 |[],M=>rfl
 |(n,e)::L,M=>by simp[keys,keys_append L M]
def Lay (w:World)(R:Cls)(L:Hp)(Z:Zs):Prop:=Z.map (·.1)=keys L∧∀c' H',okZ c' Z→okH H' L→∀p∈L,p.2.rel c' w R H' p.1
theorem Lay.nil {w:World}{R:Cls}:Lay w R [] []:=⟨rfl,fun _ _ _ _ p hp=>by cases hp⟩
theorem Lay.append {w:World}{R:Cls}{L M:Hp}{Z Y:Zs}(h:Lay w R L Z)(h':Lay w R M Y):Lay w R (L++M) (Z++Y):=by
 refine⟨by rw[List.map_append,keys_append,h.1,h'.1],fun c' H' hz hH p hp=> ?_⟩
 obtain⟨z1,z2⟩:=okZ_append hz
 obtain⟨k1,k2⟩:=okH_append hH
 rcases List.mem_append.1 hp with hp|hp
 ·exact h.2 c' H' z1 k1 p hp
 ·exact h'.2 c' H' z2 k2 p hp
theorem own_row {w:World}{R:Cls}{T:ETy}{xs:List T.den}{v:Value}{f:List Nat}(n:Nat)(h:LTy.own w (.sl T) xs v f):∃z,(∀c' H',c'.at_ n=z→c'.fp n=f→(Ent.row T true xs).rel c' w R H' n)∧(∀c' H',c'.at_ n=z→look H' n=some (.row T true xs)→(Lf.ref n).rel c' w R H' v):=by
 rcases h with⟨h1,h2,ad,h3⟩|⟨b,o,cp,fr,h1,h2,h3,h4,h5⟩
 ·refine⟨none,fun c' H' hz hf=> ?_,fun c' H' hz hl T' d' ys hl'=> ?_⟩
  ·simp only[Ent.rel,hz]
   exact⟨h1,hf.trans h2⟩
  ·rw[hl]at hl'
   cases hl'
   rw[hz]
   subst h1
   exact⟨ad,h3⟩
 ·refine⟨some (b,o),fun c' H' hz hf=> ?_,fun c' H' hz hl T' d' ys hl'=> ?_⟩
  ·simp only[Ent.rel,hz]
   exact⟨fr,hf.trans h5,h3.mono (Nat.add_le_add_left (Nat.mul_le_mul_right _ h2.1) _),h4⟩
  ·rw[hl]at hl'
   cases hl'
   rw[hz]
   exact⟨cp,h1,h2,h3⟩
theorem res_lay {w:World}{R:Cls}{site:Nat}:∀{gs:List Sg} {own:List Bool} {vs:List Value} {q:Nat} {fr:List Nat},relAll w R (resMds own gs) vs fr→
 ∃Z,Lay w R (resLs site q own gs).2 Z∧fpsOf Z=fr∧∀c' H',okZ c' Z→okH H' (resLs site q own gs).2→All2 (Lf.rel c' w R H') (resLs site q own gs).1 vs
 |[],own,[],q,fr,h=>⟨[],Lay.nil,by cases h;rfl,fun _ _ _ _=>trivial⟩
 |[],own,_::_,q,fr,h=>h.elim
 |g::gs,own,[],q,fr,h=>h.elim
 |g::gs,own,v::vs,q,fr,h=>by
  obtain⟨f1,f2,rfl,h1,h2⟩:=h
  obtain⟨Z,hl,hf,ha⟩:=res_lay (site:=site) (q:=q+1) h2
  have plain:(resLs site q own (g::gs))=(.val g::(resLs site (q+1) own.tail gs).1,(resLs site (q+1) own.tail gs).2)→g.ro w R v∧f1=[]→
   ∃Z,Lay w R (resLs site q own (g::gs)).2 Z∧fpsOf Z=f1++f2∧∀c' H',okZ c' Z→okH H' (resLs site q own (g::gs)).2→All2 (Lf.rel c' w R H') (resLs site q own (g::gs)).1 (v::vs):=by
   rintro e ⟨h3,rfl⟩
   rw[e]
   exact⟨Z,hl,hf,fun c' H' hz hH=>⟨h3,ha c' H' hz hH⟩⟩
  cases ho:own.headD false with
  |false=>
   refine plain (by simp only[resLs,ho]) ?_
   rw[ho]at h1
   cases g<;>exact h1
  |true=>
   cases g with
   |sl T xs=>
    have e:resLs site q own (.sl T xs::gs)=(.ref (site*64+q)::(resLs site (q+1) own.tail gs).1,(site*64+q, .row T true xs)::(resLs site (q+1) own.tail gs).2):=by simp only[resLs,ho]
    rw[e]
    have h1:LTy.own w (.sl T) xs v f1:=by rw[ho]at h1;exact h1
    obtain⟨z,k1,k2⟩:=own_row (R:=R) (site*64+q) h1
    refine⟨(site*64+q,z,f1)::Z,⟨by simp[keys,hl.1],fun c' H' hz hH p hp=> ?_⟩,by simp[fpsOf,hf],fun c' H' hz hH=>⟨?_,?_⟩⟩
    ·have hz0:=hz _ (List.mem_cons_self ..)
     rcases List.mem_cons.1 hp with rfl|hp
     ·exact k1 c' H' hz0.1 hz0.2
     ·exact hl.2 c' H' (fun z hz'=>hz z (by simp[hz'])) (fun p hp'=>hH p (by simp[hp'])) p hp
    ·exact k2 c' H' (hz _ (List.mem_cons_self ..)).1 (hH _ (List.mem_cons_self ..))
    ·exact ha c' H' (fun z hz'=>hz z (by simp[hz'])) (fun p hp'=>hH p (by simp[hp']))
   |ptr T x=>
    have e:resLs site q own (.ptr T x::gs)=(.ptr (site*64+q) 0::(resLs site (q+1) own.tail gs).1,(site*64+q, .box ((T.sgs x).map .val))::(resLs site (q+1) own.tail gs).2):=by simp only[resLs,ho]
    rw[e]
    have h1:Sg.rel w R (.box false) (.ptr T x) v f1:=by rw[ho]at h1;exact h1
    obtain⟨b,cs,ty,rfl,hb,hsz,rfl,hro⟩:=h1
    refine⟨(site*64+q,some (b,0),[b])::Z,⟨by simp[keys,hl.1],fun c' H' hz hH p hp=> ?_⟩,by simp[fpsOf,hf],fun c' H' hz hH=>⟨?_,?_⟩⟩
    ·have hz0:=hz _ (List.mem_cons_self ..)
     rcases List.mem_cons.1 hp with rfl|hp
     ·refine⟨b,cs,ty,hz0.1,hz0.2,hb,All2.map_left _ (All2.of_get (by rw[ETy.sgs_length,Array.length_toList,hsz]) fun j g u hg hu=> ?_)⟩
      obtain⟨u',hu',hq⟩:=hro j g hg
      unfold World.cell? at hu'
      rw[show(⟨b,0+j,none⟩:Addr).block=b from rfl,hb]at hu'
      have:u'=u:=by simp at hu' hu;rw[hu]at hu';exact(Option.some.inj hu').symm
      subst this
      exact hq
     ·exact hl.2 c' H' (fun z hz'=>hz z (by simp[hz'])) (fun p hp'=>hH p (by simp[hp'])) p hp
    ·intro ls hl'
     exact⟨b,(hz _ (List.mem_cons_self ..)).1,rfl⟩
    ·exact ha c' H' (fun z hz'=>hz z (by simp[hz'])) (fun p hp'=>hH p (by simp[hp']))
   |int k n=>exact plain (by simp only[resLs,ho]) (by rw[ho]at h1;exact h1)
   |bool b=>exact plain (by simp only[resLs,ho]) (by rw[ho]at h1;exact h1)
   |str s=>exact plain (by simp only[resLs,ho]) (by rw[ho]at h1;exact h1)
   |fn f g A B x y=>exact plain (by simp only[resLs,ho]) (by rw[ho]at h1;exact h1)
theorem cellsOwn_at {w:World}{b:Nat}:∀{gs:List Sg} {us:List Value} {o:Nat} {fp:List Nat},cellsOwn w gs b o fp→cellsAt w b o us→us.length=gs.length→ownVals w gs us fp
 |[],[],_,_,h,_,_=>h
 |g::gs,u::us,o,fp,h,hc,hl=>by
  obtain⟨f1,f2,rfl,⟨v,hv,h1⟩,h2⟩:=h
  have:=hc 0 u rfl
  rw[Nat.add_zero,hv]at this
  cases this
  exact⟨f1,f2,rfl,h1,cellsOwn_at h2 (fun j u hj=>by rw[show o+1+j=o+(j+1) by omega];exact hc (j+1) u (by simpa using hj)) (by simpa using hl)⟩
 |[],_::_,_,_,_,_,hl=>by simp at hl
 |_::_,[],_,_,_,_,hl=>by simp at hl
theorem own_relAll {w:World}{R:Cls}:∀{gs:List Sg} {vs:List Value} {f:List Nat},ownVals w gs vs f→relAll w R (resMds (List.replicate gs.length true) gs) vs f
 |[],[],_,h=>h
 |g::gs,v::vs,f,h=>by
  obtain⟨f1,f2,rfl,h1,h2⟩:=h
  have h2':relAll w R (resMds (List.replicate gs.length true) gs) vs f2:=own_relAll h2
  refine⟨f1,f2,rfl,?_,h2'⟩
  cases g with
  |sl T xs=>exact h1
  |ptr=>exact h1.elim
  |fn=>exact h1.elim
  |int=>exact h1
  |bool=>exact h1
  |str=>exact h1
 |[],_::_,_,h=>h.elim
 |_::_,[],_,h=>h.elim
def sameKind :Ent→Ent→Prop
 | .box _, .box _=>True
 | .row T d xs, .row T' d' ys=>∃e:T=T',d=d'∧ys.length=xs.length
 |_,_=>False
section
variable {P:Program} {E:Env} {F:Fr} {c:Cc} {w:World} {R:Cls} {σ:St} {a:Act} {site:Nat} {o:Oper} {d:D}
theorem io_post (h:Rel F c w R σ a){p:Nat}{ow:Bool}{l:Lf}{g':Sg}{ss as':Hp}{ds:List Nat}(hset:ioSet σ site p ow l g'=some (ss,as',ds)){v:Value}{f f':List Nat}(hheld:Held c w σ ow l v f)(hv:l.rel c w R σ.heap v)
 {w':World} {R':Cls} (hrel:g'.rel w' R' (ioMo ow g') v f') (hsame:∀b,named c σ (wrName σ.heap (some ow) l) b→b∉f→w'.heap[b]? =w.heap[b]?) (hblk:∀b n,blk w b n→blk w' b n)
 (hfn:f'.Nodup) (hdj:∀b∈f',named c σ (wrName σ.heap (some ow) l) b→b∈f):
 ∃Z Y,Z.map (·.1)=keys ss∧Lay w' R' (ss++as') (Z++Y)∧(fpsOf (Z++Y)).Nodup∧(∀b∈fpsOf (Z++Y),b∈f'∨(named c σ (wrName σ.heap (some ow) l) b∧b∉f))∧(∀z∈Z,z.2.1=c.at_ z.1)∧(∀n e',look ss n=some e'→∃e,look σ.heap n=some e∧sameKind e e'∧(prefFree n none σ=true∨(∀b o,c.at_ n=some (b,o)→w'.heap[b]? =w.heap[b]?)∨∃ls,e= .box ls)):=by
 rw[ioSet_eq]at hset
 unfold ioSet0 at hset
 split at hset
 ·rename_i n T xs
  split at hset
  ·rename_i T' xs0 hl hp
   split at hset
   ·rename_i hT
    have hT:=ETy.beq_eq hT
    subst hT
    cases ow with
    |true=>
     have hset:=Option.some.inj hset
     injection hset with h1 h2
     injection h2 with h2 h3
     subst h1;subst h2;subst h3
     exact⟨[],[],rfl,⟨rfl,fun c' H' hz hH p hp=>(by cases hp)⟩,List.nodup_nil,fun b hb=>(by cases hb),fun z hz=>(by cases hz),fun m e' hm=>(by simp[look]at hm)⟩
    |false=>
    have hset:=Option.some.inj hset
    injection hset with h1 h2
    injection h2 with h2 h3
    subst h1;subst h2;subst h3
    have hown:LTy.own w' (.sl T') xs v f':=hrel
    have hv:=hv _ _ _ hl
    have he:=h.hp n _ hl
    have key:(Ent.row T' true xs).rel ⟨fun _=>c.at_ n,fun _=>f'⟩ w' R' [] n∧xs.length=xs0.length:=by
     cases hz:c.at_ n with
     |none=>
      rw[hz]at hv
      simp only[Ent.rel,hz]at he
      obtain⟨ad,hv⟩:=hv
      rcases hown with⟨h1,h2,_⟩|⟨b,o,cp,fr,h1,h2,_⟩
      ·exact⟨⟨h1,h2⟩,by rw[h1,he.1]⟩
      ·rw[hv]at h1
       injection h1 with _ _ h1
       exact absurd h2.2 (by omega)
     |some z=>
      obtain⟨b,o⟩:=z
      rw[hz]at hv
      obtain⟨cp,hv,hfit,_⟩:=hv
      rcases hown with⟨_,_,ad,h1⟩|⟨b',o',cp',fr,h1,h2,h3,h4,h5⟩
      ·rw[hv]at h1
       injection h1 with _ _ h1
       exact absurd hfit.2 (by omega)
      ·rw[hv]at h1
       injection h1 with h6 h7 h8
       injection h6 with h6
       injection h6 with h6 h9
       subst h6;subst h9
       exact⟨⟨fr,h5,h3.mono (Nat.add_le_add_left (Nat.mul_le_mul_right _ h2.1) _),h4⟩,h7.symm⟩
    refine⟨[(n,c.at_ n,f')],[],rfl,⟨rfl,fun c' H' hz hH p hp=> ?_⟩,by simpa [fpsOf]using hfn,fun b hb=> .inl (by simpa [fpsOf]using hb),fun z hz=>by simp at hz;subst hz;rfl,fun m e' hm=> ?_⟩
    ·simp at hp
     subst hp
     obtain⟨z1,z2⟩:=hz _ (List.mem_cons_self ..)
     have k:=key.1
     simp only[Ent.rel]at k⊢
     rw[z1]
     simp only at z2
     rw[z2]
     exact k
    ·have:=look_one (by rw[hm];simp)
     subst this
     rw[look_cons,if_pos rfl]at hm
     cases hm
     exact⟨_,hl,⟨rfl,rfl,key.2⟩, .inl hp⟩
   ·exact no hset
  ·exact no hset
 ·rename_i n i j U ys
  split at hset
  ·rename_i T xs hl
   split at hset
   ·rename_i x hs
    have hset:=Option.some.inj hset
    injection hset with h1 h2
    injection h2 with h2 h3
    subst h1;subst h2;subst h3
    obtain⟨hoF,hs⟩:=noOw_some hs
    have hown:LTy.own w' (.sl U) ys v f':=by rw[hoF]at hrel;exact hrel
    cases hheld with
    |pref _ _ _ _ _ T' xs' hi b o v1 v2 v3 f1 fa fb f3 hl' hb hj hfp hbk hat h1 hv2 ha hbb h3=>
     rw[hl]at hl'
     cases hl'
     have hgetD:xs.getD i T.dflt=xs[i]:=by simp[List.getD,hi]
     rw[hgetD]at hs
     obtain⟨hsg,g0,hg0,hgt⟩:=setSg_sgs T xs[i] j (.sl U ys) x hs
     have hnd:=h.nd n _ hl
     rw[hfp]at hnd
     have nm:∀k,k∈c.fp n→named c σ (wrName σ.heap (some ow) (.pref n i j)) k:=fun k hk=>⟨n,_,by simp[wrName,Lf.names],hl,hk⟩
     have hnd2:=hnd
     simp only[List.nodup_cons,List.nodup_append,List.mem_append,not_or]at hnd2
     obtain⟨⟨hb1,⟨hba,hbf,hbfb⟩,hb3⟩,hn1,⟨⟨⟨hna,⟨hnf,hnb,hfb⟩,haf⟩,hn3,hm3⟩,h1m⟩⟩:=hnd2
     have notf:∀k,k=b∨k∈f1∨k∈fa∨k∈fb∨k∈f3→k∉f:=by
      intro k hk hkf
      rcases hk with rfl|hk|hk|hk|hk
      ·exact hbf hkf
      ·exact h1m k hk k (.inl (.inr (.inl hkf))) rfl
      ·exact haf k hk k (.inl hkf) rfl
      ·exact hfb k hkf k hk rfl
      ·exact hm3 k (.inr (.inl hkf)) k hk rfl
     have inn:∀k,k=b∨k∈f1∨k∈fa∨k∈fb∨k∈f3→k∈c.fp n:=by
      intro k hk
      rw[hfp]
      rcases hk with rfl|hk|hk|hk|hk<;>simp_all
     have sm:∀k,k=b∨k∈f1∨k∈fa∨k∈fb∨k∈f3→w'.heap[k]? =w.heap[k]? :=fun k hk=>hsame k (nm k (inn k hk)) (notf k hk)
     have nf':∀k,k=b∨k∈f1∨k∈fa∨k∈fb∨k∈f3→k∉f':=fun k hk hk'=>notf k hk (hdj k hk' (nm k (inn k hk)))
     have hl2:v2.length=T.len:=by
      have e1:=ownVals_length ha
      have e2:=ownVals_length hbb
      have hjv:=(List.getElem?_eq_some_iff.1 hv2).1
      simp only[List.length_take,List.length_drop,ETy.sgs_length]at e1 e2
      omega
     have hjs:j<(T.sgs xs[i]).length:=by rw[ETy.sgs_length];exact hj
     have hmid:ownVals w' (T.sgs x) v2 (fa++(f'++fb)):=by
      rw[hsg,take_drop_set hjs]
      have hjv:j<v2.length:=by omega
      rw[take_drop_get hjv]
      have hve:v2[j]=v:=by rw[List.getElem?_eq_getElem hjv]at hv2;exact Option.some.inj hv2
      rw[hve]
      refine ownVals_append (ownVals_same (fun k hk=>sm k (.inr (.inr (.inl hk)))) ha) ⟨f',fb,rfl,hown,ownVals_same (fun k hk=>sm k (.inr (.inr (.inr (.inl hk))))) hbb⟩
     have hall:ownVals w' (flatG T (xs.set i x)) (v1++(v2++v3)) (f1++((fa++(f'++fb))++f3)):=by
      rw[take_drop_set hi,flatG_append]
      refine ownVals_append (ownVals_same (fun k hk=>sm k (.inr (.inl hk))) h1) ?_
      exact ownVals_append hmid (ownVals_same (fun k hk=>sm k (.inr (.inr (.inr (.inr hk))))) h3)
     have hrow:rowCont w' R' T b o (xs.set i x) (f1++((fa++(f'++fb))++f3)) true:=vals_rowCont (cellsAt_same (sm b (.inl rfl)) hat) hall
     refine⟨[(n,some (b,o),b::(f1++((fa++(f'++fb))++f3)))],[],rfl,⟨rfl,fun c' H' hz hH q hq=> ?_⟩,?_,fun k hk=> ?_,fun z hz=>by simp at hz;subst hz;exact hb.symm,fun m e' hm=> ?_⟩
     ·simp at hq
      subst hq
      obtain⟨z1,z2⟩:=hz _ (List.mem_cons_self ..)
      simp only[Ent.rel]
      simp only at z1 z2
      rw[z1]
      exact⟨_,z2,by rw[List.length_set];exact hblk _ _ hbk,hrow⟩
     ·simp only[fpsOf,List.append_nil,List.cons_append,List.nil_append,List.nodup_cons,List.nodup_append,List.mem_append,not_or]
      refine⟨⟨hb1,⟨hba,nf' b (.inl rfl),hbfb⟩,hb3⟩,hn1,⟨⟨⟨hna,⟨hfn,hnb,?_⟩,?_⟩,hn3,?_⟩,?_⟩⟩
      ·rintro k hk k' hk' rfl
       exact nf' k (.inr (.inr (.inr (.inl hk')))) hk
      ·rintro k hk k' hk' rfl
       rcases hk' with hk'|hk'
       ·exact nf' k (.inr (.inr (.inl hk))) hk'
       ·exact haf k hk k (.inr hk') rfl
      ·rintro k hk k' hk' rfl
       rcases hk with hk|hk|hk
       ·exact hm3 k (.inl hk) k hk' rfl
       ·exact nf' k (.inr (.inr (.inr (.inr hk')))) hk
       ·exact hm3 k (.inr (.inr hk)) k hk' rfl
      ·rintro k hk k' hk' rfl
       rcases hk' with(hk'|hk'|hk')|hk'
       ·exact h1m k hk k (.inl (.inl hk')) rfl
       ·exact nf' k (.inr (.inl hk)) hk'
       ·exact h1m k hk k (.inl (.inr (.inr hk'))) rfl
       ·exact h1m k hk k (.inr hk') rfl
     ·simp only[fpsOf,List.append_nil,List.cons_append,List.nil_append,List.mem_cons,List.mem_append]at hk
      have old:k=b∨k∈f1∨k∈fa∨k∈fb∨k∈f3→named c σ (wrName σ.heap (some ow) (.pref n i j)) k∧k∉f:=fun hk=>⟨nm k (inn k hk),notf k hk⟩
      rcases hk with hk|hk|(hk|hk|hk)|hk
      ·exact .inr (old (.inl hk))
      ·exact .inr (old (.inr (.inl hk)))
      ·exact .inr (old (.inr (.inr (.inl hk))))
      ·exact .inl hk
      ·exact .inr (old (.inr (.inr (.inr (.inl hk)))))
      ·exact .inr (old (.inr (.inr (.inr (.inr hk)))))
     ·have:=look_one (by rw[hm];simp)
      subst this
      rw[look_cons,if_pos rfl]at hm
      cases hm
      exact⟨_,hl,⟨rfl,rfl,by rw[List.length_set]⟩, .inr (.inl fun b' o' hb'=>by rw[hb]at hb';cases hb';exact sm b (.inl rfl))⟩
   ·exact no hset
  ·exact no hset
 ·rename_i n T x
  split at hset
  ·rename_i old hl
   cases hheld with
   |box _ b old' hl' hb=>
    rw[hl]at hl'
    cases hl'
    cases ow with
    |true=>
     simp only at hset
     split at hset
     ·have hset:=Option.some.inj hset
      injection hset with h1 h2
      injection h2 with h2 h3
      subst h1;subst h2;subst h3
      obtain⟨b',cs,ty,fr,e1,hb',hsz,rfl,hown⟩:=hrel
      injection e1 with e1
      injection e1 with e1
      injection e1 with e1
      subst e1
      have hat:cellsAt w' b 0 cs.toList:=by
       intro j u hu
       unfold World.cell?
       rw[show(⟨b,0+j,none⟩:Addr).block=b from rfl,hb']
       simpa using hu
      have hvals:=cellsOwn_at hown hat (by rw[Array.length_toList,hsz,ETy.sgs_length])
      have hrr:=own_relAll (R:=R') hvals
      rw[ETy.sgs_length]at hrr
      obtain⟨Y,k1,k2,k3⟩:=res_lay (site:=(site*64+p)*1000) (q:=0) hrr
      refine⟨[(n,some (b,0),[b])],Y,rfl,⟨by simp[keys,k1.1],fun c' H' hz hH q hq=> ?_⟩,by simpa [fpsOf,k2]using hfn,fun k hk=> .inl (by simpa [fpsOf,k2]using hk),fun z hz=>by simp at hz;subst hz;exact hb.symm,fun m e' hm=> ?_⟩
      ·obtain⟨z1,z2⟩:=hz _ (List.mem_cons_self ..)
       have hzY:okZ c' Y:=fun z hz'=>hz z (List.mem_cons_of_mem _ hz')
       have hHY:=fun q hq'=>hH q (List.mem_cons_of_mem _ hq')
       rcases List.mem_cons.1 hq with rfl|hq
       ·exact⟨b,cs,ty,z1,z2,hb',k3 c' H' hzY hHY⟩
       ·exact k1.2 c' H' hzY hHY q hq
      ·have:=look_one (by rw[hm];simp)
       subst this
       rw[look_cons,if_pos rfl]at hm
       cases hm
       exact⟨_,hl,trivial, .inr (.inr ⟨_,rfl⟩)⟩
     ·exact no hset
    |false=>
     simp only at hset
     split at hset
     case h_2=>exact no hset
     have hset:=Option.some.inj hset
     injection hset with h1 h2
     injection h2 with h2 h3
     subst h1;subst h2;subst h3
     obtain⟨b',cs,ty,e1,hb',hsz,rfl,hro⟩:=hrel
     injection e1 with e1
     injection e1 with e1
     injection e1 with e1
     subst e1
     refine⟨[(n,some (b,0),[b])],[],rfl,⟨rfl,fun c' H' hz hH q hq=> ?_⟩,by simp[fpsOf],fun k hk=> .inl (by simpa [fpsOf]using hk),fun z hz=>by simp at hz;subst hz;exact hb.symm,fun m e' hm=> ?_⟩
     ·simp at hq
      subst hq
      obtain⟨z1,z2⟩:=hz _ (List.mem_cons_self ..)
      refine⟨b,cs,ty,z1,z2,hb',All2.map_left _ (All2.of_get (by rw[ETy.sgs_length,Array.length_toList,hsz]) fun j g u hg hu=> ?_)⟩
      obtain⟨u',hu',hq⟩:=hro j g hg
      unfold World.cell? at hu'
      rw[show(⟨b,0+j,none⟩:Addr).block=b from rfl,hb']at hu'
      have:u'=u:=by simp at hu' hu;rw[hu]at hu';exact(Option.some.inj hu').symm
      subst this
      exact hq
     ·have:=look_one (by rw[hm];simp)
      subst this
      rw[look_cons,if_pos rfl]at hm
      cases hm
      exact⟨_,hl,trivial, .inr (.inr ⟨_,rfl⟩)⟩
  ·exact no hset
 ·exact no hset
end
def LayP (w:World)(R:Cls)(L:Hp)(Z:Zs):Prop:=∀c' H',okZ c' Z→okH H' L→∀p∈L,p.2.rel c' w R H' p.1
theorem nodup_swap {a b c d:List Nat}:((a++c)++(b++d)).Nodup↔((a++b)++(c++d)).Nodup:=by
 refine List.Perm.nodup_iff ?_
 rw[List.append_assoc,List.append_assoc]
 exact List.Perm.append_left a (List.perm_append_comm_assoc c b d)
theorem mem_fsts {p:Nat}{ow:Bool}:∀{io:List (Nat×Bool)},(p,ow)∈io→p∈fsts io
 |(q,o)::io,h=>by
  rcases List.mem_cons.1 h with h|h
  ·injection h with h1 h2
   subst h1
   exact List.mem_cons_self ..
  ·exact List.mem_cons_of_mem _ (mem_fsts h)
theorem wrNames_apart {H:Hp}{io:List (Nat×Bool)}{l l':Lf}{ow ow':Bool}{m:Nat}:∀{ls:List Lf} {p q q':Nat},(wrNames H io p ls).Nodup→q<q'→look io (p+q)=some ow→ls[q]? =some l→look io (p+q')=some ow'→ls[q']? =some l'→m∈wrName H (some ow) l→m∈wrName H (some ow') l'→False
 |x::ls,p,0,q'+1,hn,_,h1,h2,h3,h4,h5,h6=>by
  simp at h2
  subst h2
  simp only[wrNames,List.nodup_append]at hn
  refine hn.2.2 m (by rw[show look io p=some ow from h1];exact h5) m (wrNames_mem (p:=p+1) (q:=q') (by rw[show p+1+q'=p+(q'+1) by omega];exact h3) (by simpa using h4) h6) rfl
 |x::ls,p,q+1,q'+1,hn,hlt,h1,h2,h3,h4,h5,h6=>by
  simp only[wrNames,List.nodup_append]at hn
  exact wrNames_apart (p:=p+1) (q:=q) (q':=q') hn.2.1 (by omega) (by rw[show p+1+q=p+(q+1) by omega];exact h1) (by simpa using h2) (by rw[show p+1+q'=p+(q'+1) by omega];exact h3) (by simpa using h4) h5 h6
 |[],p,q,q',_,_,_,h2,_,_,_,_=>by simp at h2
 |_::_,p,q,0,_,hlt,_,_,_,_,_,_=>by omega
section
variable {P:Program} {E:Env} {F:Fr} {c:Cc} {w:World} {R:Cls} {σ:St} {a:Act} {site:Nat} {o:Oper} {d:D}
theorem io_posts (h:Rel F c w R σ a){io0:List (Nat×Bool)}{ls:List Lf}{vs:List Value}{fp:List Nat}(hrel:All2 (Lf.rel c w R σ.heap) ls vs)(hnd:(wrNames σ.heap io0 0 ls).Nodup)
 (hheld:∀q ow l v,look io0 (0+q)=some ow→ls[q]? =some l→vs[q]? =some v→∃f,Held c w σ ow l v f∧(∀b∈f,b∈fp)∧∀b∈fp,named c σ (wrName σ.heap (some ow) l) b→b∈f)
 {w':World} {R':Cls} (hsame:∀b,b<w.heap.size→b∉fp→w'.heap[b]? =w.heap[b]?) (hblk:∀b n,blk w b n→blk w' b n):
 ∀{io:List (Nat×Bool)} {gs:List Sg} {ss as':Hp} {ds fo:List Nat},(∀p ow,(p,ow)∈io→look io0 p=some ow)→(fsts io).Nodup→ioSets σ site ls io gs=some (ss,as',ds)→relAll w' R' (ioMds io gs) (ioVals io vs) fo→fo.Nodup→(∀b∈fo,b∈fp∨w.heap.size≤b)→
  ∃Z Y,Z.map (·.1)=keys ss∧Y.map (·.1)=keys as'∧LayP w' R' (ss++as') (Z++Y)∧(fpsOf (Z++Y)).Nodup∧(∀b∈fpsOf (Z++Y),b∈fo∨(∃p ow l,(p,ow)∈io∧ls[p]? =some l∧named c σ (wrName σ.heap (some ow) l) b)∧b∉fp)∧
   (∀z∈Z,z.2.1=c.at_ z.1)∧(∀n e',look ss n=some e'→∃e,look σ.heap n=some e∧sameKind e e'∧(prefFree n none σ=true∨(∀b o,c.at_ n=some (b,o)→w'.heap[b]? =w.heap[b]?)∨∃ls,e= .box ls))
 |[],gs,ss,as',ds,fo,_,_,hs,hr,_,_=>by
  have hs:=Option.some.inj hs
  injection hs with h1 h2
  injection h2 with h2 h3
  subst h1;subst h2
  exact⟨[],[],rfl,rfl,fun _ _ _ _ p hp=>(by cases hp),List.nodup_nil,fun b hb=>(by cases hb),fun z hz=>(by cases hz),fun n e' hn=>(by simp[look]at hn)⟩
 |(p,ow)::io,[],ss,as',ds,fo,_,_,hs,_,_,_=>no hs
 |(p,ow)::io,g::gs,ss,as',ds,fo,hio,hfs,hs,hr,hfn,hfo=>by
  simp only[ioSets]at hs
  split at hs
  ·rename_i l hl
   split at hs
   ·rename_i a1 b1 c1 a2 b2 c2 hs1 hs2
    have hs:=Option.some.inj hs
    injection hs with h1 h2
    injection h2 with h2 h3
    subst h1;subst h2;subst h3
    obtain⟨f1,f2,rfl,hr1,hr2⟩:=hr
    obtain⟨v,hv,hlv⟩:=hrel.get p l hl
    have hve:vs.getD p Go.undef=v:=by simp[List.getD,hv]
    have hlk:=hio p ow (List.mem_cons_self ..)
    obtain⟨f,hh,hffp,hfpf⟩:=hheld p ow l v (by rw[Nat.zero_add];exact hlk) hl hv
    have hfn':=List.nodup_append.1 hfn
    have hnlt:∀b,named c σ (wrName σ.heap (some ow) l) b→b<w.heap.size:=fun b ⟨m,e,_,h2,h3⟩=>Ent.lt (h.hp m e h2) b h3
    have hr1':g.rel w' R' (ioMo ow g) v f1:=by
     rw[←hve]
     cases g<;>cases ow<;>exact hr1
    obtain⟨Z1,Y1,z1,z2,z3,z4,z5,z6⟩:=io_post h hs1 hh hlv hr1' (fun b hb hbf=>hsame b (hnlt b hb) (fun hbp=>hbf (hfpf b hbp hb))) hblk hfn'.1 (fun b hb hbn=>by
     rcases hfo b (List.mem_append.2 (.inl hb))with hb'|hb'
     ·exact hfpf b hb' hbn
     ·exact absurd (hnlt b hbn) (by omega))
    have hfs':=List.nodup_cons.1 (show(p::fsts io).Nodup from hfs)
    obtain⟨Z2,Y2,y1,y1',y2,y3,y4,y5,y6⟩:=io_posts h hrel hnd hheld hsame hblk (io:=io) (fun p ow hp=>hio p ow (List.mem_cons_of_mem _ hp)) hfs'.2 hs2 hr2 hfn'.2.1 (fun b hb=>hfo b (List.mem_append.2 (.inr hb)))
    have hY1:Y1.map (·.1)=keys b1:=by
     have:=z2.1
     rw[List.map_append,keys_append,z1]at this
     exact List.append_cancel_left this
    refine⟨Z1++Z2,Y1++Y2,by rw[List.map_append,keys_append,z1,y1],by rw[List.map_append,keys_append,hY1,y1'],?_,?_,?_,?_,?_⟩
    ·intro c' H' hz hH q hq
     have hz1:okZ c' (Z1++Y1):=fun z hz'=>hz z (by rcases List.mem_append.1 hz' with h|h<;>simp[h])
     have hz2:okZ c' (Z2++Y2):=fun z hz'=>hz z (by rcases List.mem_append.1 hz' with h|h<;>simp[h])
     have hH1:okH H' (a1++b1):=fun z hz'=>hH z (by rcases List.mem_append.1 hz' with h|h<;>simp[h])
     have hH2:okH H' (a2++b2):=fun z hz'=>hH z (by rcases List.mem_append.1 hz' with h|h<;>simp[h])
     rcases List.mem_append.1 hq with hq|hq<;>rcases List.mem_append.1 hq with hq|hq
     ·exact z2.2 c' H' hz1 hH1 q (List.mem_append.2 (.inl hq))
     ·exact y2 c' H' hz2 hH2 q (List.mem_append.2 (.inl hq))
     ·exact z2.2 c' H' hz1 hH1 q (List.mem_append.2 (.inr hq))
     ·exact y2 c' H' hz2 hH2 q (List.mem_append.2 (.inr hq))
    ·simp only[fpsOf_append]
     simp only[fpsOf_append]at z3 y3 z4 y4
     rw[nodup_swap,List.nodup_append]
     refine⟨z3,y3,fun b hb b' hb' e=> ?_⟩
     subst e
     rcases z4 b hb with k1|⟨k1,k2⟩
     ·rcases y4 b hb' with k3|⟨⟨p',ow',l',k3,k4,k5⟩,k6⟩
      ·exact hfn'.2.2 b k1 b k3 rfl
      ·rcases hfo b (List.mem_append.2 (.inl k1))with k7|k7
       ·exact k6 k7
       ·obtain⟨m,e,_,k8,k9⟩:=k5
        exact absurd (Ent.lt (h.hp m e k8) b k9) (by omega)
     ·rcases y4 b hb' with k3|⟨⟨p',ow',l',k3,k4,k5⟩,k6⟩
      ·rcases hfo b (List.mem_append.2 (.inr k3))with k7|k7
       ·exact k2 (hfpf b k7 k1)
       ·exact absurd (hnlt b k1) (by omega)
      ·obtain⟨m,e,m1,m2,m3⟩:=k1
       obtain⟨m',e',m4,m5,m6⟩:=k5
       have hpp:p≠p':=by
        rintro rfl
        exact hfs'.1 (mem_fsts k3)
       have hlk':=hio p' ow' (List.mem_cons_of_mem _ k3)
       have hmm:m=m':=by
        by_cases hmm:m=m'
        ·exact hmm
        ·exact(h.dj m e m' e' hmm m2 m5 b m3 m6).elim
       subst hmm
       rcases Nat.lt_or_gt_of_ne hpp with hlt|hlt
       ·exact wrNames_apart hnd hlt (by rw[Nat.zero_add];exact hlk) hl (by rw[Nat.zero_add];exact hlk') k4 m1 m4
       ·exact wrNames_apart hnd hlt (by rw[Nat.zero_add];exact hlk') k4 (by rw[Nat.zero_add];exact hlk) hl m4 m1
    ·intro b hb
     simp only[fpsOf_append]at hb z4 y4
     have hb':b∈fpsOf Z1++fpsOf Y1∨b∈fpsOf Z2++fpsOf Y2:=by
      simp only[List.mem_append]at hb⊢
      rcases hb with(hb|hb)|(hb|hb)<;>simp[hb]
     rcases hb' with hb'|hb'
     ·rcases z4 b hb' with k1|⟨k1,k2⟩
      ·exact .inl (List.mem_append.2 (.inl k1))
      ·exact .inr ⟨⟨p,ow,l,List.mem_cons_self ..,hl,k1⟩,fun hbp=>k2 (hfpf b hbp k1)⟩
     ·rcases y4 b hb' with k1|⟨⟨p',ow',l',k3,k4,k5⟩,k6⟩
      ·exact .inl (List.mem_append.2 (.inr k1))
      ·exact .inr ⟨⟨p',ow',l',List.mem_cons_of_mem _ k3,k4,k5⟩,k6⟩
    ·intro z hz
     rcases List.mem_append.1 hz with hz|hz
     ·exact z5 z hz
     ·exact y5 z hz
    ·intro n e' hn
     rw[look_append]at hn
     cases hx:look a1 n with
     |some x=>
      rw[hx]at hn
      cases hn
      exact z6 n _ hx
     |none=>
      rw[hx]at hn
      exact y6 n e' hn
   ·exact no hs
  ·exact no hs
end
theorem flat_args {c:Cc}{w:World}{R:Cls}{H:Hp}:∀{as:List (Bool×List Lf)} {vals:List Value} {ps:List (Bool×Nat)},All2 (fun p v=>V1.rel c w R H p.1 p.2 v) as vals→shapesEq (shapes as) ps=true→
 ∃vs,All2 (Lf.rel c w R H) (flatA as) vs∧vals=packV ps vs
 |[],[],[],_,_=>⟨[],trivial,rfl⟩
 |(g,ls)::as,v::vals,(g',n)::ps,h,hs=>by
  simp only[shapes,shapesEq,Bool.and_eq_true]at hs
  obtain⟨⟨hg,hn⟩,hs⟩:=hs
  have hg:g=g':=by simpa using hg
  have hn:=Nat.eq_of_beq_eq_true hn
  subst hg
  obtain⟨vs,h1,rfl⟩:=flat_args h.2 hs
  cases g with
  |true=>
   obtain⟨us,hv,hr⟩:=h.1
   have hv:v= .agg us.toArray:=hv
   subst hv
   refine⟨us++vs,All2.append hr h1,?_⟩
   have hl:us.length=n:=by rw[←hn];exact hr.length.symm
   show _=Value.agg ((us++vs).take n).toArray::packV ps ((us++vs).drop n)
   rw[←hl,List.take_left,List.drop_left]
  |false=>
   obtain⟨l,hl,hr⟩:=h.1
   have hl:ls=[l]:=hl
   subst hl
   refine⟨v::vs,⟨hr,h1⟩,?_⟩
   have hn:n=1:=hn.symm
   subst hn
   rfl
 |[],_::_,_,h,_=>h.elim
 |_::_,[],_,h,_=>h.elim
 |[],[],_::_,_,hs=>by simp[shapes,shapesEq]at hs
 |(g,ls)::as,_::_,[],_,hs=>by simp[shapes,shapesEq]at hs
theorem flat_ro {w:World}{R R':Cls}{g:Sg}{v:Value}(hf:g.t.flat=true)(h:g.ro w R v):g.ro w R' v:=by
 cases g<;>simp[Sg.t,LTy.flat]at hf<;>exact h
theorem cellsRo_flat {w:World}{R R':Cls}{T:ETy}(hf:T.flat=true){x:T.den}{b o:Nat}(h:cellsRo w R (T.sgs x) b o):cellsRo w R' (T.sgs x) b o:=by
 intro j g hg
 obtain⟨v,hc,hv⟩:=h j g hg
 exact⟨v,hc,flat_ro (flat_own hf x j g hg) hv⟩
theorem res_flat {w:World}{R R':Cls}:∀{gs:List Sg} {own:List Bool} {vs:List Value} {f:List Nat},roOut own gs=false→relAll w R (resMds own gs) vs f→relAll w R' (resMds own gs) vs f
 |[],_,[],_,_,h=>h
 |[],_,_::_,_,_,h=>h.elim
 |g::gs,own,[],_,_,h=>h.elim
 |g::gs,own,v::vs,f,ho,h=>by
  obtain⟨f1,f2,rfl,h1,h2⟩:=h
  simp only[roOut,Bool.or_eq_false_iff]at ho
  obtain⟨ho,ho2⟩:=ho
  refine⟨f1,f2,rfl,?_,res_flat ho2 h2⟩
  cases hw:own.headD false with
  |false=>
   rw[hw]at h1 ho
   cases g with
   |sl=>simp[Sg.t,LTy.flat]at ho
   |ptr=>simp[Sg.t,LTy.flat]at ho
   |fn=>simp[Sg.t,LTy.flat]at ho
   |int=>exact h1
   |bool=>exact h1
   |str=>exact h1
  |true=>
   rw[hw]at h1 ho
   cases g with
   |sl=>exact h1
   |ptr T x=>
    have hf:T.flat=true:=by simpa using ho
    obtain⟨b,cs,ty,h3,h4,h5,h6,h7⟩:=h1
    exact⟨b,cs,ty,h3,h4,h5,h6,cellsRo_flat hf h7⟩
   |fn=>simp[Sg.t,LTy.flat]at ho
   |int=>exact h1
   |bool=>exact h1
   |str=>exact h1
theorem resLs_ge {s:Nat}:∀{gs:List Sg} {own:List Bool} {q n:Nat},n∈keys (resLs s q own gs).2→s*64≤n
 |[],own,q,n,h=>by simp[resLs,keys]at h
 |g::gs,own,q,n,h=>by
  have tail:n∈keys (resLs s (q+1) own.tail gs).2→s*64≤n:=resLs_ge
  unfold resLs at h
  dsimp only at h
  split at h
  ·simp only[keys,List.mem_cons]at h
   rcases h with rfl|h
   ·omega
   ·exact tail h
  ·simp only[keys,List.mem_cons]at h
   rcases h with rfl|h
   ·omega
   ·exact tail h
  ·exact tail h
theorem ioSet_ge {σ:St}{site p:Nat}{ow:Bool}{l:Lf}{g:Sg}{a b:Hp}{ds:List Nat}(hs:1000≤site)(h:ioSet σ site p ow l g=some (a,b,ds)):∀n∈keys b,1000≤n:=by
 intro n hn
 rw[ioSet_eq]at h
 unfold ioSet0 at h
 split at h
 ·split at h
  ·split at h
   ·cases ow<;>
    ·have h:=Option.some.inj h
     injection h with _ h;injection h with h _;subst h
     simp[keys]at hn
   ·exact no h
  ·exact no h
 ·split at h
  ·split at h
   ·have h:=Option.some.inj h
    injection h with _ h;injection h with h _;subst h
    simp[keys]at hn
   ·exact no h
  ·exact no h
 ·split at h
  ·cases ow with
   |true=>
    simp only at h
    split at h
    ·have h:=Option.some.inj h
     injection h with _ h;injection h with h _;subst h
     have:=resLs_ge hn
     have:(site*64)*1000≤(site*64+p)*1000:=Nat.mul_le_mul_right _ (by omega)
     omega
    ·exact no h
   |false=>
    simp only at h
    split at h
    case h_2=>exact no h
    have h:=Option.some.inj h
    injection h with _ h;injection h with h _;subst h
    simp[keys]at hn
  ·exact no h
 ·exact no h
theorem ioSets_ge {σ:St}{site:Nat}{ls:List Lf}(hs:1000≤site):∀{io:List (Nat×Bool)} {gs:List Sg} {a b:Hp} {ds:List Nat},ioSets σ site ls io gs=some (a,b,ds)→∀n∈keys b,1000≤n
 |[],gs,a,b,ds,h,n,hn=>by
  have h:=Option.some.inj h
  injection h with _ h;injection h with h _;subst h
  simp[keys]at hn
 |(p,ow)::io,[],a,b,ds,h,n,hn=>no h
 |(p,ow)::io,g::gs,a,b,ds,h,n,hn=>by
  simp only[ioSets]at h
  split at h
  ·split at h
   ·rename_i a1 b1 c1 a2 b2 c2 hs1 hs2
    have h:=Option.some.inj h
    injection h with _ h;injection h with h _;subst h
    rw[keys_append]at hn
    rcases List.mem_append.1 hn with hn|hn
    ·exact ioSet_ge hs hs1 n hn
    ·exact ioSets_ge hs hs2 n hn
   ·exact no h
  ·exact no h
theorem ioSet_names {σ:St}{site p:Nat}{ow:Bool}{l:Lf}{g:Sg}{a b:Hp}{ds:List Nat}(h:ioSet σ site p ow l g=some (a,b,ds)):∀n∈wrName σ.heap (some ow) l,n∈keys a∨n∈ds:=by
 intro n hn
 rw[ioSet_eq]at h
 unfold ioSet0 at h
 split at h
 ·split at h
  ·split at h
   ·cases ow with
    |true=>
     have h:=Option.some.inj h
     injection h with h h2;injection h2 with h2 h3;subst h3
     right
     simpa [wrName,Lf.names]using hn
    |false=>
     have h:=Option.some.inj h
     injection h with h h2;subst h
     left
     simpa [keys,wrName,Lf.names]using hn
   ·exact no h
  ·exact no h
 ·split at h
  ·split at h
   ·have h:=Option.some.inj h
    injection h with h h2;subst h
    left
    simpa [keys,wrName,Lf.names]using hn
   ·exact no h
  ·exact no h
 ·split at h
  ·rename_i old hl
   cases ow with
   |true=>
    simp only at h
    split at h
    ·have h:=Option.some.inj h
     injection h with h h2;injection h2 with h2 h3;subst h;subst h3
     simp only[wrName,boxRefs_one hl,List.mem_cons]at hn
     rcases hn with rfl|hn
     ·exact .inl (by simp[keys])
     ·exact .inr hn
    ·exact no h
   |false=>
    simp only at h
    split at h
    case h_2=>exact no h
    have h:=Option.some.inj h
    injection h with h h2;subst h
    left
    simpa [keys,wrName]using hn
  ·exact no h
 ·exact no h
theorem ioSets_names {σ:St}{site:Nat}{ls:List Lf}:∀{io:List (Nat×Bool)} {gs:List Sg} {a b:Hp} {ds:List Nat},ioSets σ site ls io gs=some (a,b,ds)→
 ∀p ow l,(p,ow)∈io→ls[p]? =some l→∀n∈wrName σ.heap (some ow) l,n∈keys a∨n∈ds
 |[],gs,a,b,ds,h,p,ow,l,hp,_,n,_=>by cases hp
 |(p,ow)::io,[],a,b,ds,h,_,_,_,_,_,n,hn=>no h
 |(p,ow)::io,g::gs,a,b,ds,h,p',ow',l',hp,hl',n,hn=>by
  simp only[ioSets]at h
  split at h
  ·rename_i l hl
   split at h
   ·rename_i a1 b1 c1 a2 b2 c2 hs1 hs2
    have h:=Option.some.inj h
    injection h with h1 h2
    injection h2 with h2 h3
    subst h1;subst h3
    rw[keys_append]
    rcases List.mem_cons.1 hp with hp|hp
    ·injection hp with e1 e2
     subst e1;subst e2
     rw[hl]at hl'
     cases hl'
     rcases ioSet_names hs1 n hn with k|k
     ·exact .inl (List.mem_append.2 (.inl k))
     ·exact .inr (List.mem_append.2 (.inl k))
    ·rcases ioSets_names hs2 p' ow' l' hp hl' n hn with k|k
     ·exact .inl (List.mem_append.2 (.inr k))
     ·exact .inr (List.mem_append.2 (.inr k))
   ·exact no h
  ·exact no h
theorem look_of_mem {α:Type}:∀{Z:List (Nat×α)},(Z.map (·.1)).Nodup→∀z∈Z,look Z z.1=some z.2
 |(n,x)::Z,hn,z,hz=>by
  simp only[List.map_cons,List.nodup_cons]at hn
  rw[look_cons]
  rcases List.mem_cons.1 hz with rfl|hz'
  ·simp
  ·have:z.1≠n:=by
    intro e
    exact hn.1 (List.mem_map.2 ⟨z,hz',e⟩)
   rw[if_neg this]
   exact look_of_mem hn.2 z hz'
theorem look_none_of {α:Type}:∀{Z:List (Nat×α)} {n:Nat},n∉Z.map (·.1)→look Z n=none
 |[],_,_=>rfl
 |(m,x)::Z,n,h=>by
  simp only[List.map_cons,List.mem_cons,not_or]at h
  rw[look_cons,if_neg h.1]
  exact look_none_of h.2
theorem mem_of_look {α:Type}:∀{Z:List (Nat×α)} {n:Nat} {x:α},look Z n=some x→(n,x)∈Z
 |(m,y)::Z,n,x,h=>by
  rw[look_cons]at h
  by_cases e:n=m
  ·rw[if_pos e]at h
   cases h
   subst e
   exact List.mem_cons_self ..
  ·rw[if_neg e]at h
   exact List.mem_cons_of_mem _ (mem_of_look h)
theorem keys_map :∀(L:Hp),keys L=L.map (·.1)
 |[]=>rfl
 |(n,e)::L=>by simp[keys,keys_map L]
theorem fps_one :∀{Z:Zs},(fpsOf Z).Nodup→∀z∈Z,z.2.2.Nodup
 |y::Z,h,z,hz=>by
  have h:=List.nodup_append.1 h
  rcases List.mem_cons.1 hz with rfl|hz'
  ·exact h.1
  ·exact fps_one h.2.1 z hz'
theorem mem_fps {b:Nat}:∀{Z:Zs} {z:Nat×Option (Nat×Nat)×List Nat},z∈Z→b∈z.2.2→b∈fpsOf Z
 |y::Z,z,hz,hb=>by
  rcases List.mem_cons.1 hz with rfl|hz'
  ·exact List.mem_append.2 (.inl hb)
  ·exact List.mem_append.2 (.inr (mem_fps hz' hb))
theorem fps_apart {b:Nat}:∀{Z:Zs},(fpsOf Z).Nodup→∀z∈Z,∀y∈Z,z.1≠y.1→b∈z.2.2→b∈y.2.2→False
 |x::Z,h,z,hz,y,hy,hne,hb,hb'=>by
  have h:=List.nodup_append.1 h
  rcases List.mem_cons.1 hz with e1|hz'<;>rcases List.mem_cons.1 hy with e2|hy'
  ·exact hne (by rw[e1,e2])
  ·exact h.2.2 b (e1▸hb) b (mem_fps hy' hb') rfl
  ·exact h.2.2 b (e2▸hb') b (mem_fps hz' hb) rfl
  ·exact fps_apart h.2.1 z hz' y hy' hne hb hb'
theorem sameKind_refl :∀(e:Ent),sameKind e e
 | .box _=>trivial
 | .row _ _ _=>⟨rfl,rfl,rfl⟩
theorem Lf.rel_sets {c c':Cc}{w w':World}{R R':Cls}{H H':Hp}(hR:∀b,R b→w'.heap[b]? =w.heap[b]?)(hR':∀b,R b→R' b)(hbk:∀b n,blk w b n→blk w' b n)(l:Lf)(v:Value)
 (hk:∀n e',l.says n=true→look H' n=some e'→∃e,look H n=some e∧sameKind e e'∧c'.at_ n=c.at_ n)
 (hp:∀n i j,l= .pref n i j→look H' n≠none→∀T d xs,look H n=some (.row T d xs)→∀b o,c.at_ n=some (b,o)→w'.heap[b]? =w.heap[b]?)
 (h:l.rel c w R H v):l.rel c' w' R' H' v:=by
 have row:∀n T d xs,l.says n=true→look H' n=some (.row T d xs)→∃ys:List T.den,look H n=some (.row T d ys)∧xs.length=ys.length∧c'.at_ n=c.at_ n:=by
  intro n T d xs hs hl
  obtain⟨e,h1,h2,h3⟩:=hk n _ hs hl
  cases e with
  |box ls=>exact h2.elim
  |row T' d' ys=>
   obtain⟨e,h4,h5⟩:=h2
   subst e
   subst h4
   exact⟨ys,h1,h5,h3⟩
 have box:∀n ls,l.says n=true→look H' n=some (.box ls)→∃ms,look H n=some (.box ms)∧c'.at_ n=c.at_ n:=by
  intro n ls hs hl
  obtain⟨e,h1,h2,h3⟩:=hk n _ hs hl
  cases e with
  |box ms=>exact⟨ms,h1,h3⟩
  |row T' d' ys=>exact h2.elim
 cases l with
 |val g=>exact Sg.ro_same hR hR' h
 |nil0=>exact h
 |nilp=>exact h
 |dead=>trivial
 |rptr p j=>
  obtain⟨b,o,hv,hb,hr⟩:=h
  exact⟨b,o,hv,hR' b hb,ETy.ro_same hR hR' p.T p.x b o (hR b hb) hr⟩
 |ref n=>
  intro T d xs hl
  obtain⟨ys,h1,h2,h3⟩:=row n T d xs (by simp[Lf.says]) hl
  have h4:=h T d ys h1
  rw[h3,h2]
  cases hz:c.at_ n with
  |none=>rw[hz]at h4;exact h4
  |some z=>
   rw[hz]at h4
   obtain⟨cp,hv,hle,hb⟩:=h4
   exact⟨cp,hv,hle,hbk _ _ hb⟩
 |pref n i j=>
  intro T d xs hl
  obtain⟨ys,h1,h2,h3⟩:=row n T d xs (by simp[Lf.says]) hl
  obtain⟨h4,h5,h6,b,o,h7,h8⟩:=h T d ys h1
  exact⟨h4,by omega,h6,b,o,h3.trans h7,(cell_same (hp n i j rfl (by rw[hl];simp) T d ys h1 b o h7)).trans h8⟩
 |eptr n i j=>
  intro T d xs hl
  obtain⟨ys,h1,h2,h3⟩:=row n T d xs (by simp[Lf.says]) hl
  obtain⟨h5,b,o,h7,h8⟩:=h T d ys h1
  exact⟨by omega,b,o,h3.trans h7,h8⟩
 |ptr n off=>
  intro ls hl
  obtain⟨ms,h1,h3⟩:=box n ls (by simp[Lf.says]) hl
  obtain⟨b,h4,h5⟩:=h ms h1
  exact⟨b,h3.trans h4,h5⟩
 |fnl f caps=>
  obtain⟨vs,hv,hc⟩:=h
  refine⟨vs,hv,All2.mono_mem (fun n v hn hq ls hl=> ?_) hc⟩
  obtain⟨ms,h1,h3⟩:=box n ls (by simp[Lf.says,(mem_iff caps n).2 hn]) hl
  obtain⟨b,h4,h5⟩:=hq ms h1
  exact⟨b,h3.trans h4,h5⟩
theorem av_of {c:Cc}{w:World}{R:Cls}{H:Hp}:∀{rs:List (Bool×Nat)} {ls:List Lf} {vs:List Value},All2 (Lf.rel c w R H) ls vs→(∀p∈rs,p.1=false→p.2=1)→(rs.map (·.2)).sum=ls.length→
 All2 (fun p v=>V1.rel c w R H p.1 p.2 v) (shaped rs ls) (packV rs vs)
 |[],_,_,_,_,_=>trivial
 |(g,n)::rs,ls,vs,h,h1,hl=>by
  simp only[List.map_cons,List.sum_cons]at hl
  have hd:=All2.drop n h
  have ht:=All2.take n h
  refine⟨?_,av_of hd (fun p hp=>h1 p (by simp[hp])) (by simp;omega)⟩
  cases g with
  |true=>exact⟨vs.take n,rfl,ht⟩
  |false=>
   have hn:n=1:=h1 (false,n) (by simp) rfl
   subst hn
   match ls,vs,h,hl with
   |l::ls,v::vs,h,hl=>exact⟨l,rfl,h.1⟩
   |[],_,_,hl=>simp at hl
theorem resLs_length {s:Nat}:∀{gs:List Sg} {own:List Bool} {q:Nat},(resLs s q own gs).1.length=gs.length
 |[],_,_=>rfl
 |g::gs,own,q=>by
  have:=resLs_length (s:=s) (gs:=gs) (own:=own.tail) (q:=q+1)
  unfold resLs
  dsimp only
  split<;>simp[this]
theorem av_shaped {c:Cc}{w:World}{R:Cls}{H:Hp}:∀{rs:List (Bool×Nat)} {ls:List Lf} {vs:List Value},All2 (Lf.rel c w R H) ls vs→rsOk rs ls.length=true→All2 (fun p v=>V1.rel c w R H p.1 p.2 v) (shaped rs ls) (packV rs vs)
 |[],_,_,_,_=>trivial
 |(g,n)::rs,ls,vs,h,hr=>by
  simp only[rsOk,Bool.and_eq_true]at hr
  obtain⟨⟨hg,hn⟩,hr⟩:=hr
  refine⟨?_,av_shaped (All2.drop n h) (by rw[List.length_drop];exact hr)⟩
  cases g with
  |true=>exact⟨vs.take n,rfl,All2.take n h⟩
  |false=>
   have hn1:n=1:=Nat.eq_of_beq_eq_true (by simpa using hg)
   subst hn1
   match ls,vs,h,hn with
   |l::ls,v::vs,h,hn=>exact⟨l,rfl,h.1⟩
   |[],_,_,hn=>simp at hn
theorem av_avOf {c:Cc}{w:World}{R:Cls}{H:Hp}{vs:List Value}{as:List (Bool×List Lf)}(h:All2 (fun p v=>V1.rel c w R H p.1 p.2 v) as vs):(avOf as).rel c w R H (tupV vs):=by
 match as,vs,h with
 |[(g,ls)],[v],h=>exact h.1
 |p::q::as,u::v::vs,h=>exact⟨u::v::vs,rfl,h⟩
 |[],[],_=>exact rfl
section
variable {P:Program} {E:Env} {F:Fr} {c:Cc} {w:World} {R:Cls} {σ:St} {a:Act} {site:Nat} {o:Oper} {d:D}
theorem call_post (h:Rel F c w R σ a){av:AV}{ss adds:Hp}{dels:List Nat}(hok:dOk σ ⟨av,adds,dels,ss⟩=true)(hadd:∀n∈keys adds,look F.io n=none){w':World}{R':Cls}{Z Y:Zs}(hZ:Z.map (·.1)=keys ss)(hY:Y.map (·.1)=keys adds)
 (hlay:LayP w' R' (ss++adds) (Z++Y)) (hnd:(fpsOf (Z++Y)).Nodup) (hat:∀z∈Z,z.2.1=c.at_ z.1)
 (hkind:∀n e',look ss n=some e'→∃e,look σ.heap n=some e∧sameKind e e'∧(prefFree n none σ=true∨(∀b o,c.at_ n=some (b,o)→w'.heap[b]? =w.heap[b]?)∨∃ls,e= .box ls))
 (hfp:∀b∈fpsOf (Z++Y),¬R' b∧(w.heap.size≤b∨∃m e,look σ.heap m=some e∧(m∈dels∨look ss m≠none)∧b∈c.fp m))
 (hsame:∀b,b<w.heap.size→(∀n e,look σ.heap n=some e→(n∈dels∨look ss n≠none)→b∉c.fp n)→w'.heap[b]? =w.heap[b]?)
 (hR:∀b,R b→R' b) (hR':∀b,R' b→b<w'.heap.size∧(R b∨w.heap.size≤b∨∃m e,look σ.heap m=some e∧(m∈dels∨look ss m≠none)∧b∈c.fp m)) (hext:Ext [] w w'∨(w.heap.size≤w'.heap.size∧(∀b n,blk w b n→blk w' b n)∧w'.os=w.os∧w'.output=w.output∧w'.tape=w.tape))
 (hkc:∀n old new,look σ.heap n=some (.box old)→look ss n=some (.box new)→∀(j:Nat) (g:Sg),old[j]? =some (.val g)→g.t.flat=false→new[j]? =some (.val g)∧∀b,c.at_ n=some (b,0)→w'.cell? ⟨b,j,none⟩=w.cell? ⟨b,j,none⟩):
 ∃c',Rel F c' w' R' ⟨σ.tmps,newH σ ⟨av,adds,dels,ss⟩⟩ a∧okZ c' (Z++Y)∧okH (newH σ ⟨av,adds,dels,ss⟩) (ss++adds):=by
 have hx:w.heap.size≤w'.heap.size∧(∀b n,blk w b n→blk w' b n)∧w'.os=w.os∧w'.output=w.output∧w'.tape=w.tape:=by
  rcases hext with hx|hx
  ·exact⟨hx.sz,hx.sh,hx.os,hx.out,hx.tape⟩
  ·exact hx
 obtain⟨x1,x2,x3,x4,x5⟩:=hx
 simp only[dOk,Bool.and_eq_true]at hok
 obtain⟨⟨⟨hnew,hka⟩,hks⟩,hdisj⟩:=hok
 have hka:=(nodup_iff _).1 hka
 have hks:=(nodup_iff _).1 hks
 have hdisj:=(disj_iff _ _).1 hdisj
 have hfresh:∀n∈keys adds,look σ.heap n=none∧∀l,σ.has l→l.says n=false:=by
  intro n hn
  obtain⟨e,he⟩:=(keys_look adds n).1 hn
  exact St.fresh_spec (newOk_spec hnew n e he)
 have hsh:∀n∈keys ss,∃e,look σ.heap n=some e:=by
  intro n hn
  obtain⟨e,he⟩:=(keys_look ss n).1 hn
  obtain⟨e',h1,_⟩:=hkind n e he
  exact⟨e',h1⟩
 have hkeys:((Z++Y).map (·.1)).Nodup:=by
  rw[List.map_append,hZ,hY,List.nodup_append]
  refine⟨hks,hka,fun n hn m hm e=> ?_⟩
  subst e
  obtain⟨e,he⟩:=hsh n hn
  rw[(hfresh n hm).1]at he
  cases he
 have hc:okZ ⟨fun n=>match look (Z++Y) n with|some z=>z.1|none=>c.at_ n,fun n=>match look (Z++Y) n with|some z=>z.2|none=>c.fp n⟩ (Z++Y):=by
  intro z hz
  have:=look_of_mem hkeys z hz
  simp only[this]
  exact⟨trivial,trivial⟩
 have hH:okH (newH σ ⟨av,adds,dels,ss⟩) (ss++adds):=by
  intro p hp
  rw[look_newH]
  rcases List.mem_append.1 hp with hp|hp
  ·have hpk:p.1∈keys ss:=by rw[keys_map];exact List.mem_map.2 ⟨p,hp,rfl⟩
   have h1:look ss p.1=some p.2:=look_of_mem (by rw[←keys_map];exact hks) p hp
   obtain⟨e,he⟩:=hsh p.1 hpk
   have h2:look adds p.1=none:=by
    refine look_none_of ?_
    rw[←keys_map]
    intro hk
    rw[(hfresh p.1 hk).1]at he
    cases he
   simp only[h2,hdisj p.1 hpk,if_false,he,h1]
  ·have h1:look adds p.1=some p.2:=look_of_mem (by rw[←keys_map];exact hka) p hp
   simp only[h1]
 refine⟨_,?_,hc,hH⟩
 have hent:=hlay _ _ hc hH
 have hin:∀n e,look (newH σ ⟨av,adds,dels,ss⟩) n=some e→(look adds n≠none∨look ss n≠none)→(n,e)∈ss++adds∧∃z,(n,z)∈Z++Y:=by
  intro n e he hn
  have key:∃e',(n,e')∈ss++adds:=by
   rcases hn with hn|hn
   ·cases hx:look adds n with
    |none=>exact absurd hx hn
    |some x=>exact⟨x,List.mem_append.2 (.inr (mem_of_look hx))⟩
   ·cases hx:look ss n with
    |none=>exact absurd hx hn
    |some x=>exact⟨x,List.mem_append.2 (.inl (mem_of_look hx))⟩
  obtain⟨e',he'⟩:=key
  have:=hH _ he'
  rw[he]at this
  cases this
  refine⟨he',?_⟩
  have hnk:n∈(Z++Y).map (·.1):=by
   rw[List.map_append,hZ,hY,←keys_append,keys_map]
   exact List.mem_map.2 ⟨_,he',rfl⟩
  obtain⟨z,hz,rfl⟩:=List.mem_map.1 hnk
  exact⟨z.2,hz⟩
 refine Rel.step (d:=⟨av,adds,dels,ss⟩) h hnew (fun n e he hn=> ?_) ?_ hsame hR hR' ?_ ?_ ?_ ?_ x1 x2 x3 x4 x5 ?_
 ·exact hdisj n ((keys_look ss n).2 ⟨e,he⟩) hn
 ·intro n h1 h2
  have:look (Z++Y) n=none:=by
   refine look_none_of ?_
   rw[List.map_append,hZ,hY]
   intro hn
   rcases List.mem_append.1 hn with hn|hn
   ·obtain⟨e,he⟩:=(keys_look ss n).1 hn
    rw[h2]at he
    cases he
   ·obtain⟨e,he⟩:=(keys_look adds n).1 hn
    rw[h1]at he
    cases he
  simp only[this]
  exact⟨trivial,trivial⟩
 ·intro n e he hn
  obtain⟨h1,z,hz⟩:=hin n e he hn
  have hcz:=hc _ hz
  refine⟨hent _ h1,?_,fun b hb=> ?_⟩
  ·rw[hcz.2]
   exact fps_one hnd _ hz
  ·rw[hcz.2]at hb
   exact hfp b (mem_fps hz hb)
 ·intro n e m e' hne he hm hn hm' b hb hb'
  obtain⟨_,z,hz⟩:=hin n e he hn
  obtain⟨_,y,hy⟩:=hin m e' hm hm'
  rw[(hc _ hz).2]at hb
  rw[(hc _ hy).2]at hb'
  exact fps_apart hnd _ hz _ hy hne hb hb'
 ·intro n hn
  refine hadd n ((keys_look adds n).2 ?_)
  cases hx:look adds n with
  |none=>exact absurd hx hn
  |some x=>exact⟨x,rfl⟩
 ·intro l v hl _ hv
  have kept:∀m e',look ss m=none→look adds m=none→look (newH σ ⟨av,adds,dels,ss⟩) m=some e'→look σ.heap m=some e'∧m∉dels:=by
   intro m e' h1 h2 h3
   rw[look_newH]at h3
   simp only[h2]at h3
   by_cases hd:m∈dels
   ·simp[hd]at h3
   ·simp only[hd,if_false]at h3
    cases hx:look σ.heap m with
    |none=>simp[hx]at h3
    |some x=>simp[hx,h1]at h3;subst h3;exact⟨rfl,hd⟩
  have noadd:∀m,l.says m=true→look adds m=none:=by
   intro m hm
   cases hx:look adds m with
   |none=>rfl
   |some x=>
    have hmk:m∈keys adds:=(keys_look adds m).2 ⟨x,hx⟩
    rcases hl with hl|⟨p,z,hp,hl⟩
    ·have:=(hfresh m hmk).2 l hl
     rw[hm]at this
     cases this
    ·have hpn:m=p:=by rcases hl with rfl|rfl<;>exact Nat.eq_of_beq_eq_true hm
     subst hpn
     rw[hadd m hmk]at hp
     cases hp
  refine Lf.rel_sets (fun b hb=>hsame b (h.rl b hb) (fun n e hn _ hbf=>(h.nr n e hn b hbf).1 hb)) hR x2 l v (fun m e' hm he'=> ?_) (fun n i j e hne T dd xs hrow b o' hb=> ?_) hv
  ·have h2:=noadd m hm
   cases hx:look ss m with
   |none=>
    obtain⟨h3,h4⟩:=kept m e' hx h2 he'
    refine⟨e',h3,sameKind_refl e',?_⟩
    have:look (Z++Y) m=none:=by
     refine look_none_of ?_
     rw[List.map_append,hZ,hY]
     intro hn
     rcases List.mem_append.1 hn with hn|hn
     ·obtain⟨e,he⟩:=(keys_look ss m).1 hn
      rw[hx]at he
      cases he
     ·obtain⟨e,he⟩:=(keys_look adds m).1 hn
      rw[h2]at he
      cases he
    simp only[this]
   |some x=>
    have hxs:(m,x)∈ss:=mem_of_look hx
    have h3:=hH _ (List.mem_append.2 (.inl hxs))
    rw[he']at h3
    cases h3
    obtain⟨e,h4,h5,_⟩:=hkind m _ hx
    refine⟨e,h4,h5,?_⟩
    have hmz:m∈Z.map (·.1):=by rw[hZ,keys_map];exact List.mem_map.2 ⟨_,hxs,rfl⟩
    obtain⟨z,hz,rfl⟩:=List.mem_map.1 hmz
    rw[(hc z (List.mem_append.2 (.inl hz))).1]
    exact hat z hz
  ·subst e
   have hsl:σ.has (.pref n i j):=hl.resolve_right (by rintro⟨p,z,_,e|e⟩<;>cases e)
   cases hx:look ss n with
   |some x=>
    obtain⟨e,h4,_,h6⟩:=hkind n _ hx
    rcases h6 with h6|h6|⟨ls,h6⟩
    ·obtain⟨q,hq,_⟩:=prefFree_spec h6 hsl
     cases hq
    ·exact h6 b o' hb
    ·subst h6
     rw[hrow]at h4
     cases h4
   |none=>
    have h2:=noadd n (by simp[Lf.says])
    cases hy:look (newH σ ⟨av,adds,dels,ss⟩) n with
    |none=>exact absurd hy hne
    |some e'=>
     obtain⟨h3,h4⟩:=kept n e' hx h2 hy
     have hbn:=at_fp h hrow hb
     refine hsame b (Ent.lt (h.hp n _ hrow) b hbn) (fun m e hm hd hbm=> ?_)
     have hmn:m≠n:=by
      rintro rfl
      rcases hd with hd|hd
      ·exact h4 hd
      ·exact hd hx
     exact h.dj m e n _ hmn hm hrow b hbm hbn
 ·intro n e new hio he hs
  obtain⟨e2,h4,h5,_⟩:=hkind n _ hs
  rw[he]at h4
  cases h4
  cases e with
  |row T d xs=>exact h5.elim
  |box old=>
   refine⟨old,rfl,?_,hkc n old new he hs⟩
   have hnk:n∈Z.map (·.1):=by rw[hZ];exact(keys_look ss n).2 ⟨_,hs⟩
   obtain⟨z,hz,rfl⟩:=List.mem_map.1 hnk
   rw[(hc z (List.mem_append.2 (.inl hz))).1]
   exact hat z hz
end
section
variable {P:Program} {E:Env} {F:Fr} {c:Cc} {w:World} {R:Cls} {σ:St} {a:Act} {site:Nat} {o:Oper} {d:D}
theorem ioSets_look {σ:St}{site:Nat}{ls:List Lf}:∀{io:List (Nat×Bool)} {gs:List Sg} {r:Hp×Hp×List Nat},ioSets σ site ls io gs=some r→∀p ow,look io p=some ow→∃l g s,ls[p]? =some l∧ioSet σ site p ow l g=some s
 |[],_,_,_,p,ow,h=>by simp[look]at h
 |(q,o)::io,[],r,h,_,_,_=>no h
 |(q,o)::io,g::gs,r,h,p,ow,hp=>by
  simp only[ioSets]at h
  split at h
  ·rename_i l hl
   split at h
   ·rename_i a1 b1 c1 a2 b2 c2 hs1 hs2
    rw[look_cons]at hp
    by_cases e:p=q
    ·rw[if_pos e]at hp
     cases hp
     subst e
     exact⟨l,g,_,hl,hs1⟩
    ·rw[if_neg e]at hp
     exact ioSets_look hs2 p ow hp
   ·exact no h
  ·exact no h
theorem LTy.sg_t (t:LTy)(x:t.den):(t.sg x).t=t:=by cases t<;>rfl
theorem sg_flat {t:LTy}{x:t.den}{g:Sg}(h:t.sg x=g):g.t.flat=t.flat:=by
 subst h
 exact congrArg LTy.flat (LTy.sg_t t x)
theorem sgs_one {t:LTy}{x:(ETy.cons t .nil).den}{g:Sg}(h:((ETy.cons t .nil).sgs x)[0]? =some g):t.sg x=g:=Option.some.inj h
theorem sgs_head {t u:LTy}{ts:ETy}{x:(ETy.cons t (.cons u ts)).den}{g:Sg}(h:((ETy.cons t (.cons u ts)).sgs x)[0]? =some g):t.sg x.1=g:=Option.some.inj h
theorem mixT_sgs :∀(T:ETy) (x y:T.den) (j:Nat) (g:Sg),(T.sgs (mixT T x y))[j]? =some g→(g.t.flat=true∧(T.sgs y)[j]? =some g)∨(g.t.flat=false∧(T.sgs x)[j]? =some g)
 | .nil,x,y,j,g,h=>by simp[ETy.sgs]at h
 | .cons t .nil,x,y,0,g,h=>by
   cases hf:t.flat with
   |true=>
    have e:mixT (.cons t .nil) x y=y:=by unfold mixT;rw[hf]
    rw[e]at h
    exact .inl ⟨(sg_flat (sgs_one h)).trans hf,h⟩
   |false=>
    have e:mixT (.cons t .nil) x y=x:=by unfold mixT;rw[hf]
    rw[e]at h
    exact .inr ⟨(sg_flat (sgs_one h)).trans hf,h⟩
 | .cons t .nil,x,y,j+1,g,h=>by simp[ETy.sgs]at h
 | .cons t (.cons u ts),x,y,0,g,h=>by
   have h:=sgs_head h
   cases hf:t.flat with
   |true=>
    have e:(mixT (.cons t (.cons u ts)) x y).1=y.1:=by unfold mixT;rw[hf]
    rw[e]at h
    exact .inl ⟨(sg_flat h).trans hf,congrArg some h⟩
   |false=>
    have e:(mixT (.cons t (.cons u ts)) x y).1=x.1:=by unfold mixT;rw[hf]
    rw[e]at h
    exact .inr ⟨(sg_flat h).trans hf,congrArg some h⟩
 | .cons t (.cons u ts),x,y,j+1,g,h=>mixT_sgs (.cons u ts) x.2 y.2 j g h
theorem sgs_ty :∀(T:ETy) (x y:T.den) (j:Nat) (g h:Sg),(T.sgs x)[j]? =some g→(T.sgs y)[j]? =some h→g.t.flat=h.t.flat
 | .nil,x,y,j,g,h,hg,_=>by simp[ETy.sgs]at hg
 | .cons t .nil,x,y,0,g,h,hg,hh=>(sg_flat (sgs_one hg)).trans (sg_flat (sgs_one hh)).symm
 | .cons t .nil,x,y,j+1,g,h,hg,_=>by simp[ETy.sgs]at hg
 | .cons t (.cons u ts),x,y,0,g,h,hg,hh=>(sg_flat (sgs_head hg)).trans (sg_flat (sgs_head hh)).symm
 | .cons t (.cons u ts),x,y,j+1,g,h,hg,hh=>sgs_ty (.cons u ts) x.2 y.2 j g h hg hh
theorem mixT_old (T:ETy)(x y:T.den){j:Nat}{g:Sg}(hg:(T.sgs x)[j]? =some g)(hf:g.t.flat=false):(T.sgs (mixT T x y))[j]? =some g:=by
 have hl:j<(T.sgs (mixT T x y)).length:=by
  have:=(List.getElem?_eq_some_iff.1 hg).1
  rw[ETy.sgs_length]at this⊢
  exact this
 have h1:=List.getElem?_eq_getElem hl
 rcases mixT_sgs T x y j _ h1 with h|h
 ·have:=sgs_ty T x y j _ _ hg h.2
  rw[this,h.1]at hf
  cases hf
 ·rw[h1]
  rw[hg]at h
  exact h.2.symm
theorem keep_val {H:Hp}:∀(T:ETy) (old:List Lf) (x:T.den),frzRs H T old=some x→keepLs T old=true→∀(j:Nat) (g:Sg),(T.sgs x)[j]? =some g→g.t.flat=false→old[j]? =some (.val g)
 | .nil,old,x,hf,hk,j,g,hg,hn=>by simp[ETy.sgs]at hg
 | .cons t .nil,old,x,hf,hk,j+1,g,hg,hn=>by simp[ETy.sgs]at hg
 | .cons t .nil,old,x,hf,hk,0,g,hg,hn=>by
   obtain⟨l,rfl,h1⟩:=frzRs_one hf
   have hg:=sgs_one hg
   have ht:t.flat=false:=(sg_flat hg).symm.trans hn
   unfold keepLs at hk
   simp only[ht,Bool.false_or,Bool.and_eq_true]at hk
   cases l with
   |val g'=>rw[←(LTy.get_sg (show t.get g'=some x from h1)),hg];rfl
   |_=>exact absurd hk.1 (by simp)
 | .cons t (.cons u ts),old,x,hf,hk,0,g,hg,hn=>by
   obtain⟨l,r,rfl,h1,h2⟩:=frzRs_cons hf
   have hg:=sgs_head hg
   have ht:t.flat=false:=(sg_flat hg).symm.trans hn
   unfold keepLs at hk
   simp only[ht,Bool.false_or,Bool.and_eq_true]at hk
   cases l with
   |val g'=>rw[←(LTy.get_sg (show t.get g'=some x.1 from h1)),hg];rfl
   |_=>exact absurd hk.1 (by simp)
 | .cons t (.cons u ts),old,x,hf,hk,j+1,g,hg,hn=>by
   obtain⟨l,r,rfl,h1,h2⟩:=frzRs_cons hf
   unfold keepLs at hk
   simp only[Bool.and_eq_true]at hk
   exact keep_val (.cons u ts) r x.2 h2 hk.2 j g hg hn
theorem val_sgs {H:Hp}:∀(T:ETy) (old:List Lf) (x:T.den),frzRs H T old=some x→∀(j:Nat) (g:Sg),old[j]? =some (.val g)→(T.sgs x)[j]? =some g
 | .nil,old,x,hf,j,g,hg=>by rw[frzRs_nil hf]at hg;simp at hg
 | .cons t .nil,old,x,hf,0,g,hg=>by
   obtain⟨l,rfl,h1⟩:=frzRs_one hf
   have hg:l= .val g:=Option.some.inj hg
   subst hg
   exact congrArg some (LTy.get_sg (show t.get g=some x from h1))
 | .cons t .nil,old,x,hf,j+1,g,hg=>by
   obtain⟨l,rfl,h1⟩:=frzRs_one hf
   simp at hg
 | .cons t (.cons u ts),old,x,hf,0,g,hg=>by
   obtain⟨l,r,rfl,h1,h2⟩:=frzRs_cons hf
   have hg:l= .val g:=Option.some.inj hg
   subst hg
   exact congrArg some (LTy.get_sg (show t.get g=some x.1 from h1))
 | .cons t (.cons u ts),old,x,hf,j+1,g,hg=>by
   obtain⟨l,r,rfl,h1,h2⟩:=frzRs_cons hf
   exact val_sgs (.cons u ts) r x.2 h2 j g hg
theorem ownLs_val {H:Hp}{g:Sg}:∀{ls:List Lf},ownLs H ls=true→Lf.val g∈ls→g.t.flat=true
 |l::ls,h,hm=>by
  simp only[ownLs,Bool.and_eq_true]at h
  rcases List.mem_cons.1 hm with e|hm
  ·subst e
   exact h.1
  ·exact ownLs_val h.2 hm
theorem ioSets_at {σ:St}{site:Nat}{ls:List Lf}{n:Nat}{e':Ent}:∀{io:List (Nat×Bool)} {gs:List Sg} {ss as':Hp} {ds:List Nat},ioSets σ site ls io gs=some (ss,as',ds)→look ss n=some e'→
 ∃(k p:Nat) (ow:Bool) (l:Lf) (g:Sg) (s1:Hp) (s2:Hp×List Nat),io[k]? =some (p,ow)∧gs[k]? =some g∧ls[p]? =some l∧ioSet σ site p ow l g=some (s1,s2)∧look s1 n=some e'
 |[],gs,ss,as',ds,h,hn=>by
  have h:=Option.some.inj h
  injection h with h1 h2
  subst h1
  simp[look]at hn
 |(p,ow)::io,[],ss,as',ds,h,_=>no h
 |(p,ow)::io,g::gs,ss,as',ds,h,hn=>by
  simp only[ioSets]at h
  split at h
  ·rename_i l hl
   split at h
   ·rename_i a1 b1 c1 a2 b2 c2 hs1 hs2
    have h:=Option.some.inj h
    injection h with h1 h2
    subst h1
    rw[look_append]at hn
    cases hx:look a1 n with
    |some z=>
     rw[hx]at hn
     cases hn
     exact⟨0,p,ow,l,g,a1,(b1,c1),rfl,rfl,hl,hs1,hx⟩
    |none=>
     rw[hx]at hn
     obtain⟨k,p',ow',l',g',s1,s2,q1,q2,q3⟩:=ioSets_at hs2 hn
     exact⟨k+1,p',ow',l',g',s1,s2,by simpa using q1,by simpa using q2,q3⟩
   ·exact no h
  ·exact no h
theorem mixIo_at {as:List Sg}{p:Nat}{ow:Bool}{g:Sg}:∀{io:List (Nat×Bool)} {gs:List Sg} {k:Nat},(mixIo io as gs)[k]? =some g→io[k]? =some (p,ow)→∃g0,g=mixO ow as[p]? g0
 |(q,o)::io,g0::gs,0,h,hk=>by
  have hk:=Option.some.inj hk
  injection hk with h1 h2
  subst h1;subst h2
  exact⟨g0,(Option.some.inj h).symm⟩
 |(q,o)::io,g0::gs,k+1,h,hk=>mixIo_at (io:=io) (gs:=gs) (k:=k) h hk
 |[],gs,k,h,hk=>by simp at hk
 |(q,o)::io,[],k,h,hk=>by simp[mixIo]at h
theorem mixG_or (o:Option Sg)(T:ETy)(y:T.den):(∃x:T.den,o=some (.ptr T x)∧mixG o (.ptr T y)= .ptr T (mixT T x y))∨mixG o (.ptr T y)= .bool false:=by
 unfold mixG
 dsimp only
 split
 ·rename_i T0 x0
  split
  ·rename_i x1 hc
   obtain⟨e,hc⟩:=ETy.cast?_some hc
   subst e
   subst hc
   exact .inl ⟨_,rfl,rfl⟩
  ·exact .inr rfl
 ·exact .inr rfl
theorem mixG_ptr {o:Option Sg}{g:Sg}{T:ETy}{z:T.den}(h:mixG o g= .ptr T z):∃x y:T.den,o=some (.ptr T x)∧g= .ptr T y∧z=mixT T x y:=by
 cases g with
 |ptr T1 y=>
  rcases mixG_or o T1 y with⟨x,e1,e2⟩|e
  ·rw[e2]at h
   cases h
   exact⟨x,y,e1,rfl,rfl⟩
  ·rw[e]at h
   cases h
 |_=>cases h
theorem io_box (h:Rel F c w R σ a){A:ETy}{x:A.den}{ls:List Lf}{vs:List Value}(hall:All2 (fun(g:Sg) l=>∃(t:LTy) (y:t.den),g=t.sg y∧frz σ.heap t l=some y) (A.sgs x) ls)(hvs:All2 (Lf.rel c w R σ.heap) ls vs)
 {p n:Nat} {T:ETy} {x0:T.den} {old:List Lf} (hx:(A.sgs x)[p]? =some (.ptr T x0)) (hl:ls[p]? =some (.ptr n 0)) (ho:look σ.heap n=some (.box old)):
 frzRs σ.heap T old=some x0∧∃b us e,c.at_ n=some (b,0)∧vs.getD p Go.undef= .pointer (some ⟨b,0,none⟩)∧w.heap[b]? =some (.cells us e (0,0))∧All2 (Lf.rel c w R σ.heap) old us.toList:=by
 obtain⟨l',hl',t,y,e1,e2⟩:=hall.get p _ hx
 rw[hl]at hl'
 cases hl'
 have e2:capAs σ.heap n t=some y:=e2
 obtain⟨T1,y1,ls1,k1,k2,k3⟩:=capAs_some e2
 rw[←e1]at k1
 cases k1
 rw[ho]at k2
 cases k2
 obtain⟨v,hv,hr⟩:=hvs.get p _ hl
 obtain⟨b,hb,rfl⟩:=hr old ho
 obtain⟨b',us,e,q1,q2,q3,q4⟩:=h.hp n _ ho
 rw[hb]at q1
 cases q1
 exact⟨k3,b,us,e,hb,by simp[List.getD,hv],q3,q4⟩
theorem mix_rel (h:Rel F c w R σ a){A:ETy}{x:A.den}{ls:List Lf}{vs:List Value}(hall:All2 (fun(g:Sg) l=>∃(t:LTy) (y:t.den),g=t.sg y∧frz σ.heap t l=some y) (A.sgs x) ls)(hvs:All2 (Lf.rel c w R σ.heap) ls vs)
 {io0:List (Nat×Bool)} {w':World} {R' R2:Cls} (hR:∀b,R b→R2 b) (hsame:∀b,R b→w'.heap[b]? =w.heap[b]?) (hk:keptIo io0 (A.sgs x) vs w w'):
 ∀{io:List (Nat×Bool)} {gs:List Sg} {r:Hp×Hp×List Nat} {fo:List Nat},(∀p ow,(p,ow)∈io→look io0 p=some ow)→ioSets σ site ls io (mixIo io (A.sgs x) gs)=some r→relAll w' R' (ioMdO io gs) (ioVals io vs) fo→relAll w' R2 (ioMds io (mixIo io (A.sgs x) gs)) (ioVals io vs) fo
 |[],gs,r,fo,_,_,hr=>by
  have e:∀(gs:List Sg),ioMds [] gs=[]:=fun gs=>by cases gs<;>rfl
  have e':∀(gs:List Sg),ioMdO [] gs=[]:=fun gs=>by cases gs<;>rfl
  rw[e']at hr
  rw[e]
  exact hr
 |(p,ow)::io,[],r,fo,_,hs,hr=>no hs
 |(p,ow)::io,g::gs,r,fo,hin,hs,hr=>by
  obtain⟨f1,f2,rfl,h1,h2⟩:=hr
  have hs:ioSets σ site ls ((p,ow)::io) (mixO ow (A.sgs x)[p]? g::mixIo io (A.sgs x) gs)=some r:=hs
  simp only[ioSets]at hs
  split at hs
  case h_2=>exact no hs
  rename_i l hl
  split at hs
  case h_2=>exact no hs
  rename_i a1 b1 c1 a2 b2 c2 hs1 hs2
  refine⟨f1,f2,rfl,?_,mix_rel h hall hvs hR hsame hk (io:=io) (fun p ow hp=>hin p ow (List.mem_cons_of_mem _ hp)) hs2 h2⟩
  cases ow with
  |true=>
   cases g with
   |ptr T y=>exact h1
   |_=>exact h1
  |false=>
   have harg:=ioSet_arg hs1
   cases g with
   |ptr T y=>
    have harg:IoArg σ false l (mixG (A.sgs x)[p]? (.ptr T y)):=harg
    show(mixG (A.sgs x)[p]? (.ptr T y)).rel w' R2 (match mixG (A.sgs x)[p]? (.ptr T y),false with| .ptr ..,ow=> .box ow| .sl ..,true=> .gone|_,_=> .own) (vs.getD p Go.undef) f1
    rcases mixG_or (A.sgs x)[p]? T y with⟨x0,k1,e⟩|e
    case inr=>rw[e]at harg;cases harg
    rw[e]at harg⊢
    cases harg with
    |box n T1 z1 old hl' _ hkeep=>
     obtain⟨q1,b,us,e,q2,q3,q4,q5⟩:=io_box h hall hvs k1 hl hl'
     obtain⟨b',cs,ty,r1,r2,r3,r4,r5⟩:=h1
     have r1:vs.getD p Go.undef=_:=r1
     rw[q3]at r1
     cases r1
     refine⟨b,cs,ty,q3,r2,r3,r4,fun j g hg=> ?_⟩
     rw[Nat.zero_add]
     rcases mixT_sgs T x0 y j g hg with⟨g1,g2⟩|⟨g1,g2⟩
     ·obtain⟨v,v1,v2⟩:=r5 j g g2
      rw[Nat.zero_add]at v1
      exact⟨v,v1,flat_ro g1 v2⟩
     ·have hkk:=hk p T x0 b (hin p false (List.mem_cons_self ..)) k1 q3 j g g2 g1
      have hleaf:=keep_val T old x0 q1 (hkeep rfl) j g g2 g1
      obtain⟨v,hv,hrv⟩:=q5.get j _ hleaf
      have hcell:w.cell? ⟨b,j,none⟩=some v:=by
       unfold World.cell?
       rw[show(⟨b,j,none⟩:Addr).block=b from rfl,q4]
       simpa using hv
      exact⟨v,hkk.trans hcell,Sg.ro_same hsame hR hrv⟩
   |_=>exact h1
theorem mix_kept (h:Rel F c w R σ a){A:ETy}{x:A.den}{ls:List Lf}{vs:List Value}(hall:All2 (fun(g:Sg) l=>∃(t:LTy) (y:t.den),g=t.sg y∧frz σ.heap t l=some y) (A.sgs x) ls)(hvs:All2 (Lf.rel c w R σ.heap) ls vs)
 {io:List (Nat×Bool)} {w':World} (hk:keptIo io (A.sgs x) vs w w') (hin:∀p ow,(p,ow)∈io→look io p=some ow) {gs:List Sg} {ss as':Hp} {ds:List Nat} (hs:ioSets σ site ls io (mixIo io (A.sgs x) gs)=some (ss,as',ds)):
 ∀n old new,look σ.heap n=some (.box old)→look ss n=some (.box new)→∀(j:Nat) (g:Sg),old[j]? =some (.val g)→g.t.flat=false→new[j]? =some (.val g)∧∀b,c.at_ n=some (b,0)→w'.cell? ⟨b,j,none⟩=w.cell? ⟨b,j,none⟩:=by
 intro n old new ho hn j g hj hg
 obtain⟨k,p,ow,l,g',s1,s2,k1,k2,k3,k4,k5⟩:=ioSets_at hs hn
 obtain⟨g0,hg0⟩:=mixIo_at k2 k1
 rw[ioSet_eq]at k4
 unfold ioSet0 at k4
 split at k4
 ·split at k4
  ·split at k4
   ·cases ow with
    |true=>
     have k4:=Option.some.inj k4
     injection k4 with k4 _
     subst k4
     simp[look]at k5
    |false=>
     have k4:=Option.some.inj k4
     injection k4 with k4 _
     subst k4
     have:=look_one (by rw[k5];simp)
     subst this
     rw[look_cons,if_pos rfl]at k5
     cases k5
   ·exact no k4
  ·exact no k4
 ·split at k4
  ·split at k4
   ·have k4:=Option.some.inj k4
    injection k4 with k4 _
    subst k4
    have:=look_one (by rw[k5];simp)
    subst this
    rw[look_cons,if_pos rfl]at k5
    cases k5
   ·exact no k4
  ·exact no k4
 ·rename_i m T z
  split at k4
  ·rename_i old' hl
   cases ow with
   |true=>
    simp only at k4
    split at k4
    ·rename_i hown
     have k4:=Option.some.inj k4
     injection k4 with k4 _
     subst k4
     have:=look_one (by rw[k5];simp)
     subst this
     rw[ho]at hl
     cases hl
     simp only[Bool.and_eq_true]at hown
     rw[ownLs_val hown.1 (List.mem_iff_getElem?.2 ⟨j,hj⟩)]at hg
     cases hg
    ·exact no k4
   |false=>
    simp only at k4
    split at k4
    ·rename_i hkeep
     have k4:=Option.some.inj k4
     injection k4 with k4 _
     subst k4
     have:=look_one (by rw[k5];simp)
     subst this
     rw[ho]at hl
     cases hl
     rw[look_cons,if_pos rfl]at k5
     cases k5
     obtain⟨x0,y,e1,e2,e3⟩:=mixG_ptr hg0.symm
     subst e3
     obtain⟨q1,b,us,e,q2,q3,q4,q5⟩:=io_box h hall hvs e1 k3 ho
     have hx0:=val_sgs T old x0 q1 j g hj
     refine⟨by rw[List.getElem?_map,mixT_old T x0 y hx0 hg];rfl,fun b' hb'=> ?_⟩
     rw[q2]at hb'
     cases hb'
     exact hk p T x0 b (hin p false (List.mem_of_getElem? k1)) e1 q3 j g hx0 hg
    ·exact no k4
  ·exact no k4
 ·exact no k4
theorem wrNames_at {H:Hp}{io:List (Nat×Bool)}{m:Nat}:∀{ls:List Lf} {p:Nat},m∈wrNames H io p ls→∃q ow l,look io (p+q)=some ow∧ls[q]? =some l∧m∈wrName H (some ow) l
 |l::ls,p,h=>by
  rcases List.mem_append.1 h with h|h
  ·cases hz:look io p with
   |none=>rw[hz]at h;cases h
   |some ow=>rw[hz]at h;exact⟨0,ow,l,hz,rfl,h⟩
  ·obtain⟨q,ow,l',h1,h2,h3⟩:=wrNames_at h
   exact⟨q+1,ow,l',by rw[show p+(q+1)=p+1+q by omega];exact h1,by simpa using h2,h3⟩
theorem look_io {io:List (Nat×Bool)}(hn:(fsts io).Nodup):∀p ow,(p,ow)∈io→look io p=some ow:=by
 have e:∀(io:List (Nat×Bool)),fsts io=io.map (·.1):=by
  intro io
  induction io with
  |nil=>rfl
  |cons x io ih=>obtain⟨p,b⟩:=x;simp[fsts,ih]
 intro p ow hp
 exact look_of_mem (by rw[←e];exact hn) (p,ow) hp
theorem resMds_nil (g:Sg)(gs:List Sg):resMds [] (g::gs)=(Md.ro,g)::resMds [] gs:=by cases g<;>rfl
theorem resMds_ro {w:World}{R:Cls}:∀{gs:List Sg} {own:List Bool} {vs:List Value} {fr:List Nat},relAll w R (resMds own gs) vs fr→relAll w (fun b=>R b∨b∈fr) (resMds [] gs) vs []
 |[],own,[],fr,h=>rfl
 |[],own,_::_,fr,h=>h.elim
 |g::gs,own,[],fr,h=>h.elim
 |g::gs,own,v::vs,fr,h=>by
  obtain⟨f1,f2,rfl,h1,h2⟩:=h
  rw[resMds_nil]
  refine⟨[],[],rfl,?_,?_⟩
  ·have key:(g.ro w R v∨g.own w v f1∨∃T x,g= .ptr T x∧Sg.rel w R (.box false) g v f1)→g.ro w (fun b=>R b∨b∈f1++f2) v:=by
    rintro(h|h|⟨T,x,rfl,h⟩)
    ·exact Sg.ro_same (fun _ _=>rfl) (fun b hb=> .inl hb) h
    ·exact Sg.own_ro (fun b hb=> .inr (by simp[hb])) h
    ·obtain⟨b,vs,e,rfl,h3,h4,rfl,h5⟩:=h
     refine⟨b,0,rfl, .inr (by simp),(ETy.ro_iff T x 0).2 ?_⟩
     exact cellsRo_same (fun _ _=>rfl) (fun b hb=> .inl hb) rfl h5
   have h1:(g.ro w R v∨g.own w v f1∨∃T x,g= .ptr T x∧Sg.rel w R (.box false) g v f1):=by
    cases ho:own.headD false with
    |false=>
     rw[ho]at h1
     exact .inl h1.1
    |true=>
     rw[ho]at h1
     cases g with
     |sl T xs=>exact .inr (.inl h1)
     |ptr T x=>exact .inr (.inr ⟨T,x,rfl,h1⟩)
     |int=>exact .inl h1.1
     |bool=>exact .inl h1.1
     |str=>exact .inl h1.1
     |fn=>exact .inl h1.1
   exact⟨key h1,rfl⟩
  ·have:=resMds_ro h2
   have mono:∀{gs:List Sg} {vs:List Value} {R1 R2:Cls},(∀b,R1 b→R2 b)→relAll w R1 (resMds [] gs) vs []→relAll w R2 (resMds [] gs) vs []:=by
    intro gs
    induction gs with
    |nil=>intro vs R1 R2 _ h;cases vs<;>exact h
    |cons g gs ih=>
     intro vs R1 R2 hR h
     cases vs with
     |nil=>exact h.elim
     |cons v vs=>
      rw[resMds_nil]at h⊢
      obtain⟨a1,a2,ha,hb,hc⟩:=h
      obtain⟨rfl,rfl⟩:=List.append_eq_nil_iff.1 ha.symm
      exact⟨[],[],rfl,⟨Sg.ro_same (fun _ _=>rfl) hR hb.1,rfl⟩,ih hR hc⟩
   exact mono (fun b hb=>hb.imp_right fun h=>by simp[h]) this
theorem relAll_lt {w:World}{R:Cls}:∀{l:List (Md×Sg)} {vs:List Value} {f:List Nat},relAll w R l vs f→∀b∈f,b<w.heap.size
 |[],[],f,h,b,hb=>by rw[show f=[]from h]at hb;cases hb
 |[],_::_,f,h,_,_=>h.elim
 |_::_,[],f,h,_,_=>h.elim
 |(m,g)::l,v::vs,f,h,b,hb=>by
  obtain⟨f1,f2,rfl,h1,h2⟩:=h
  rcases List.mem_append.1 hb with hb|hb
  ·exact Sg.rel_lt h1 b hb
  ·exact relAll_lt h2 b hb
theorem Valid.at {P:Program}{g:Nat}{con:Con}(E:Env)(site:Nat)(h:Valid P g con):Valid P g (conAt E site con):=by
 unfold conAt
 split
 ·exact h
 ·rename_i hz
  simp only[Bool.or_eq_false_iff,Bool.not_eq_false']at hz
  have hio:con.io=[]:=by simpa using hz.2
  refine⟨h.fn,h.rs,?_⟩
  intro x y hx w vs R fp hrel hnil hnd hR hlt
  refine(h.calls x y hx w vs R fp hrel hnil hnd hR hlt).mono ?_
  rintro e w' ⟨rs,fo,fr,R',rfl,hi,hr,h1,h2,h3,h4,h5⟩
  dsimp only
  rw[hio]at hi h5⊢
  have hfo:fo=[]:=hi
  have hfp:fp=[]:=by
   rw[hio]at hrel
   have:∀{gs:List Sg} {vs:List Value} {q:Nat} {fp:List Nat},relAll w R (argMds [] q gs) vs fp→fp=[]:=by
    intro gs
    induction gs with
    |nil=>intro vs q fp h;cases vs with|nil=>exact h|cons _ _=>exact h.elim
    |cons g gs ih=>
     intro vs q fp h
     cases vs with
     |nil=>exact h.elim
     |cons v vs=>
      obtain⟨f1,f2,rfl,k1,k2⟩:=h
      rw[ih k2,List.append_nil]
      exact k1.2
   exact this hrel
  subst hfo
  subst hfp
  rw[hio]at hr
  refine⟨rs,[],[],fun b=>R' b∨b∈fr,rfl,rfl,resMds_ro hr,List.nodup_nil,fun b hb=>(by cases hb),fun b hb=> .inl (h3 b hb),?_,h5⟩
  rintro b (hb|hb)
  ·exact h4 b hb
  ·refine⟨relAll_lt hr b hb,?_⟩
   rcases(h2 b (by simp[hb])).2 with hq|hq
   ·cases hq
   ·exact .inr hq
theorem nils_vals {ls:List Lf}{vs:List Value}(h:All2 (Lf.rel c w R σ.heap) ls vs):∀{qs:List Nat},nilsOk ls qs=true→∀q∈qs,∃a,vs[q]? =some (.slice a 0 0)
 |[],_,q,hq=>by cases hq
 |q0::qs,hn,q,hq=>by
  simp only[nilsOk,Bool.and_eq_true]at hn
  rcases List.mem_cons.1 hq with rfl|hq
  ·have h1:=hn.1
   split at h1
   ·rename_i hl
    obtain⟨v,hv,a,rfl⟩:=h.get q _ hl
    exact⟨a,hv⟩
   ·cases h1
  ·exact nils_vals h hn.2 q hq
theorem call_run (hE:EnvOk P E)(h:Rel F c w R σ a){g:Nat}{as:List (Bool×List Lf)}{vals:List Value}(hd:callE E σ site g as some=some d)(hok:dOk σ d=true)(hF:∀n z,look F.io n=some z→n<1000)(hs:1000≤site)
 (hargs:All2 (fun p v=>V1.rel c w R σ.heap p.1 p.2 v) as vals):Calls P g vals.toArray w fun e w'=>∃v,e= .returned v∧Post F σ a d v w':=by
 unfold callE at hd
 split at hd
 ·exact no hd
 ·rename_i con0 hcon0
  have hv:=Valid.at E site (hE.tab site g con0 hcon0)
  revert hd hv
  generalize conAt E site con0=con
  intro hd hv
  unfold callC at hd
  dsimp only at hd
  split at hd
  ·rename_i x hsh hfz
   split at hd
   ·rename_i hg
    simp only[Bool.and_eq_true]at hg
    obtain⟨⟨⟨hfs,hwn⟩,hdj⟩,hnil⟩:=hg
    have hfs:=(nodup_iff _).1 hfs
    have hwn:=(nodup_iff _).1 hwn
    have hdj:=(disj_iff _ _).1 hdj
    obtain⟨y,hy,hd⟩:=Option.bind_eq_some_iff.1 hd
    split at hd
    ·rename_i ss as' ds hios
     have hd:=(Option.some.inj hd).symm
     obtain⟨vs,hvs,rfl⟩:=flat_args hargs hsh
     let ro:=roNames σ.heap con.io 0 (flatA as)
     let wr:=wrNames σ.heap con.io 0 (flatA as)
     let R0:Cls:=fun b=>R b∨named c σ ro b
     have hRR:∀b,R b→R0 b:=fun b hb=> .inl hb
     obtain⟨fp,hrel,hfn,hfw,hheld⟩:=args_rel h (R0:=R0) hRR (p:=0) (frzs_all con.A _ x hfz) hvs (fun q ow l hq hl=>by
      rw[Nat.zero_add]at hq
      obtain⟨l',g',s',h1,h2⟩:=ioSets_look hios q ow hq
      rw[hl]at h1
      cases h1
      exact⟨g',ioSet_arg h2⟩) hwn (fun n e hn hl b hb=> .inr ⟨n,e,hn,hl,hb⟩)
     have hlt:∀ns b,named c σ ns b→b<w.heap.size:=fun ns b ⟨m,e,_,h2,h3⟩=>Ent.lt (h.hp m e h2) b h3
     have hwR:∀b,named c σ wr b→¬R0 b:=by
      rintro b ⟨m,e,h1,h2,h3⟩ (hb|⟨m',e',h4,h5,h6⟩)
      ·exact(h.nr m e h2 b h3).1 hb
      ·exact h.dj m e m' e' (fun e=>hdj m h1 (e▸h4)) h2 h5 b h3 h6
     refine(hv.calls x y hy w vs R0 fp hrel (nils_vals hvs hnil) hfn (fun b hb=>hwR b (hfw b hb)) (fun b hb=> ?_)).mono ?_
     ·rcases hb with hb|hb
      ·exact h.rl b hb
      ·exact hlt _ b hb
     rintro e w' ⟨rs,fo,fr,R',rfl,hio,hres,hnd,hff,hRR',hR'lt,hext,hkept⟩
     have hin:=look_io hfs
     have hallA:=frzs_all con.A _ x hfz
     have hRs:∀b,R b→w'.heap[b]? =w.heap[b]? :=fun b hb=>hext.fr b (h.rl b hb) (fun hbf=>hwR b (hfw b hbf) (.inl hb))
     refine⟨_,rfl,?_⟩
     have hnd':=List.nodup_append.1 hnd
     have fin:∀(R2:Cls) (dels:List Nat),d=⟨avOf (shaped con.rs (resLs site 0 con.own ((con.B.sgs y).drop con.io.length)).1),as'++(resLs site 0 con.own ((con.B.sgs y).drop con.io.length)).2,ds++dels,ss⟩→
      relAll w' R2 (ioMds con.io (mixIo con.io (con.A.sgs x) ((con.B.sgs y).take con.io.length))) (ioVals con.io vs) fo→relAll w' R2 (resMds con.own ((con.B.sgs y).drop con.io.length)) rs fr→(∀b,R b→R2 b)→(∀b,R2 b→R' b)→
      (∀b,R2 b→R b∨w.heap.size≤b∨named c σ dels b)→Post F σ a d (tupV (packV con.rs rs)) w':=by
      intro R2 dels hd hio hres hR2 hR2' hR2n
      subst hd
      obtain⟨Z,Y,z1,z2,z3,z4,z5,z6,z7⟩:=io_posts h hvs hwn hheld (w':=w') (R':=R2) (fun b hb hbp=>hext.fr b hb hbp) hext.sh (look_io hfs) hfs hios hio hnd'.1 (fun b hb=>(hff b (List.mem_append.2 (.inl hb))).2)
      obtain⟨X,k1,k2,k3⟩:=res_lay (site:=site) (q:=0) hres
      have hwm:∀b,named c σ wr b→∃m e,look σ.heap m=some e∧(m∈ds++dels∨look ss m≠none)∧b∈c.fp m:=by
       rintro b ⟨m,e,h1,h2,h3⟩
       obtain⟨q,ow,l,h4,h5,h6⟩:=wrNames_at h1
       rw[Nat.zero_add]at h4
       refine⟨m,e,h2,?_,h3⟩
       rcases ioSets_names hios q ow l (mem_of_look h4) h5 m h6 with h7|h7
       ·right
        obtain⟨e',he'⟩:=(keys_look ss m).1 h7
        rw[he']
        simp
       ·exact .inl (List.mem_append.2 (.inl h7))
      have hZY:∀b∈fpsOf (Z++Y),b∈fo∨(named c σ wr b∧b∉fp):=by
       intro b hb
       rcases z5 b hb with h1|⟨⟨p,ow,l,h1,h2,m,e,h3,h4,h5⟩,h6⟩
       ·exact .inl h1
       ·exact .inr ⟨⟨m,e,wrNames_mem (p:=0) (by rw[Nat.zero_add];exact look_io hfs p ow h1) h2 h3,h4,h5⟩,h6⟩
      have hall:fpsOf (Z++(Y++X))=fpsOf (Z++Y)++fr:=by rw[←List.append_assoc,fpsOf_append,k2]
      obtain⟨c',q1,q2,q3⟩:=call_post h hok (w':=w') (R':=R2) (Z:=Z) (Y:=Y++X) (by
       intro n hn
       rw[keys_append]at hn
       have hge:1000≤n:=by
        rcases List.mem_append.1 hn with hn|hn
        ·exact ioSets_ge hs hios n hn
        ·have:=resLs_ge hn
         omega
       cases hx:look F.io n with
       |none=>rfl
       |some z=>have:=hF n z hx;omega) z1 (by rw[List.map_append,keys_append,z2,k1.1]) (by
       intro c' H' hz hH p hp
       rw[←List.append_assoc]at hz hp hH
       obtain⟨hz1,hz2⟩:=okZ_append hz
       obtain⟨hH1,hH2⟩:=okH_append hH
       rcases List.mem_append.1 hp with hp|hp
       ·exact z3 c' H' hz1 hH1 p hp
       ·exact k1.2 c' H' hz2 hH2 p hp) (by
       rw[hall,List.nodup_append]
       refine⟨z4,hnd'.2.1,fun b hb b' hb' e=> ?_⟩
       subst e
       rcases hZY b hb with h1|⟨h1,h2⟩
       ·exact hnd'.2.2 b h1 b hb' rfl
       ·rcases(hff b (List.mem_append.2 (.inr hb'))).2 with h3|h3
        ·exact h2 h3
        ·exact absurd (hlt _ b h1) (by omega)) z6 z7 (by
       intro b hb
       rw[hall]at hb
       have fresh:b∈fo++fr→¬R2 b∧(w.heap.size≤b∨∃m e,look σ.heap m=some e∧(m∈ds++dels∨look ss m≠none)∧b∈c.fp m):=by
        intro hb
        obtain⟨h1,h2⟩:=hff b hb
        refine⟨fun hr=>h1 (hR2' b hr),?_⟩
        rcases h2 with h2|h2
        ·exact .inr (hwm b (hfw b h2))
        ·exact .inl h2
       rcases List.mem_append.1 hb with hb|hb
       ·rcases hZY b hb with h1|⟨h1,h2⟩
        ·exact fresh (List.mem_append.2 (.inl h1))
        ·refine⟨fun hr=> ?_, .inr (hwm b h1)⟩
         rcases(hR'lt b (hR2' b hr)).2 with h3|h3
         ·exact hwR b h1 h3
         ·exact absurd (hlt _ b h1) (by omega)
       ·exact fresh (List.mem_append.2 (.inr hb))) (by
       intro b hb hd
       refine hext.fr b hb (fun hbp=> ?_)
       obtain⟨m,e,h1,h2,h3⟩:=hwm b (hfw b hbp)
       exact hd m e h1 h2 h3) hR2 (by
       intro b hb
       refine⟨(hR'lt b (hR2' b hb)).1,?_⟩
       rcases hR2n b hb with h1|h1|⟨m,e,h1,h2,h3⟩
       ·exact .inl h1
       ·exact .inr (.inl h1)
       ·exact .inr (.inr ⟨m,e,h2, .inl (List.mem_append.2 (.inr h1)),h3⟩)) (.inr ⟨hext.sz,hext.sh,hext.os,hext.out,hext.tape⟩) (mix_kept h hallA hvs hkept hin hios)
      refine⟨c',R2,q1,av_avOf (av_shaped (k3 c' _ ?_ ?_) ?_)⟩
      ·intro z hz
       exact q2 z (by simp[hz])
      ·intro p hp
       exact q3 p (by simp[hp])
      ·rw[resLs_length,List.length_drop,ETy.sgs_length]
       exact hv.rs
     cases hout:roOut con.own ((con.B.sgs y).drop con.io.length)with
     |true=>
      rw[hout]at hd
      refine fin R' ro hd (mix_rel h hallA hvs (fun b hb=>hRR' b (.inl hb)) hRs hkept hin hios hio) hres (fun b hb=>hRR' b (.inl hb)) (fun _ h=>h) (fun b hb=> ?_)
      rcases(hR'lt b hb).2 with(h1|h1)|h1
      ·exact .inl h1
      ·exact .inr (.inr h1)
      ·exact .inr (.inl h1)
     |false=>
      rw[hout]at hd
      exact fin R [] hd (mix_rel h hallA hvs (fun _ h=>h) hRs hkept hin hios hio) (res_flat hout hres) (fun _ h=>h) (fun b hb=>hRR' b (.inl hb)) (fun b hb=> .inl hb)
    ·exact no hd
   ·exact no hd
  ·exact no hd
end
end V
end Go.Proofs.YtcbeaoigenjoeaeGreat
