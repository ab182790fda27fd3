/-
 Draws: rules, descriptions.

 Draws: descriptions; how a draw begins.
-/
import Derived.Test.YtndnefealooolaaGreatDoorKND2
import Derived.Test.YtndnefealooolaaGreatDoorKPDX
set_option linter.unusedSimpArgs false
set_option linter.unusedVariables false
set_option linter.defProp false
set_option maxRecDepth 100000
set_option maxHeartbeats 4000000
namespace Go.Proofs.YtndnefealooolaaGreatDoor.Eng
open Go Go.RowKit

theorem tzn {m:Mem}:ToZL m [] [] []:=by unfold ToZL;exact ⟨rfl,rfl⟩
theorem tzd {m:Mem}{x:Eng.D}{cs:List A}{zs:List Rz}{ks:List Nat} (h:ToZL m cs zs ks):ToZL m (.d x::cs) (.d x::zs) ks:=by
 unfold ToZL
 exact ⟨.d x,zs,[],ks,rfl,rfl,by unfold ToZ;exact ⟨rfl,rfl⟩,h⟩
theorem tzo {m:Mem}{k s:Nat}{e:TypeId}{es:List (List Eng.D)}{cs:List A}{zs:List Rz}{ks:List Nat} (ha:m.al k=some (es.length,e,s)) (h:ToZL m cs zs ks):ToZL m (.own k e s es::cs) (.own e s es::zs) (k::ks):=by
 unfold ToZL
 exact ⟨.own e s es,zs,[k],ks,rfl,rfl,by unfold ToZ;exact ⟨rfl,rfl,ha⟩,h⟩
theorem tza {m:Mem}{cs:List A}{zs:List Rz}{ks:List Nat} (h:ToZL m cs zs ks):ToZ m (.agg cs) (.agg zs) ks:=by unfold ToZ;exact ⟨zs,rfl,h⟩
def ZLe:List Rz→List Rz→Prop
 | [],zs=>zs=[]
 | z::zs,zs'=>∃ y ys,zs'=y::ys∧(y=z∨(z=.d (.v (.slice none 0 0))∧∃ e s,y=.own e s []))∧ZLe zs ys
theorem zl0:ZLe [] []:=by unfold ZLe;rfl
theorem zlr {z:Rz}{zs ys:List Rz} (h:ZLe zs ys):ZLe (z::zs) (z::ys):=by unfold ZLe;exact ⟨z,ys,rfl,.inl rfl,h⟩
theorem zln {e:TypeId}{s:Nat}{zs ys:List Rz} (h:ZLe zs ys):ZLe (.d (.v (.slice none 0 0))::zs) (.own e s []::ys):=by unfold ZLe;exact ⟨_,ys,rfl,.inr ⟨rfl,e,s,rfl⟩,h⟩
def ZOk (r:Rz) (zs:List Rz):Prop:=(∃ ys,r=.agg ys∧ZLe ys zs)∨∃ ds:List Eng.D,r=.d (.agg ds)∧ZLe (ds.map .d) zs
theorem zle_rep {C:CellR}{w:World}:∀ {zs ys:List Rz}{us:List Value}{F:List Nat},ZLe zs ys→RepZL C w zs us F→RepZL C w ys us F
 | [],ys,us,F,h,k=>by unfold ZLe at h;subst h;exact k
 | z::zs,ys,us,F,h,k=>by
  unfold ZLe at h
  obtain ⟨y,ys',rfl,h1,h2⟩:=h
  unfold RepZL at k ⊢
  obtain ⟨u,us',F1,F2,rfl,rfl,k1,k2⟩:=k
  refine ⟨u,us',F1,F2,rfl,rfl,?_,zle_rep h2 k2⟩
  rcases h1 with rfl|⟨rfl,e,s,rfl⟩
  ·exact k1
  ·unfold RepZ at k1 ⊢
   obtain ⟨rfl,k1⟩:=k1
   unfold RepD at k1
   exact .inl ⟨rfl,k1,rfl⟩
theorem zok_rep {C:CellR}{w:World}{r:Rz}{zs:List Rz}{u:Value}{F:List Nat} (h:ZOk r zs) (k:RepZ C w r u F):RepZ C w (.agg zs) u F:=by
 rcases h with ⟨ys,rfl,h⟩|⟨ds,rfl,h⟩
 ·unfold RepZ at k ⊢
  obtain ⟨us,rfl,k1,k2⟩:=k
  exact ⟨us,rfl,zle_rep h k1,k2⟩
 ·unfold RepZ at k ⊢
  obtain ⟨rfl,k⟩:=k
  unfold RepD at k
  obtain ⟨us,rfl,k1,k2⟩:=k
  exact ⟨us,rfl,zle_rep h (repZL_md k1),k2⟩
theorem AC.zok {P:Program}{f:FuncId}{args:List A}{bx b0:Option (List Rz)}{zs:List Rz} (h:AC P f args bx fun r b=>ZOk r zs∧b=b0):AC P f args bx fun r b=>r=.agg zs∧b=b0:=
 ⟨h.1,fun w C β F0 vs h1 h2 h3 h4=>(h.2 w C β F0 vs h1 h2 h3 h4).mono fun x w' ⟨v,r,bx',C',F,F',he',⟨hq,hb0⟩,hb,g1,g2,g3,g4,g5,g6,g7,g8⟩=>
  ⟨v,.agg zs,bx',C',F,F',he',⟨rfl,hb0⟩,hb,g1,g2,g3,g4,zok_rep hq g5,g6,g7,g8⟩⟩
abbrev ruL (r:RuleD):List Rz:=[.d (sD r.name),.d (iD r.kind),.d (iD r.size),.d (bD r.little),.own 5 1 (r.bytes.map fun c=>[uD c]),.own 9 1 (r.names.map fun s=>[sD s]),.own 3 1 (r.tags.map fun n=>[iD n]),.own 3 1 (r.kids.map fun n=>[iD n])]
def rzD:Rz→Eng.D
 | .d x=>x
 | .own _ z es=>.sl z es
 | _=>.v .nilIface
def rzP:Rz→Prop
 | .d _=>True
 | .own _ _ _=>True
 | _=>False
theorem rzD_rep {C:CellR}{w:World}:∀ {zs:List Rz}{us:List Value}{F:List Nat},(∀ z∈zs,rzP z)→RepZL C w zs us F→RepL C (zs.map rzD) us
 | [],us,F,_,k=>by unfold RepZL at k;unfold RepL;exact k.1
 | z::zs,us,F,h,k=>by
  unfold RepZL at k
  obtain ⟨u,us',F1,F2,rfl,rfl,k1,k2⟩:=k
  rw [List.map_cons]
  unfold RepL
  refine ⟨u,us',rfl,?_,rzD_rep (fun y hy=>h y (List.mem_cons_of_mem _ hy)) k2⟩
  have hz:=h z (List.mem_cons_self ..)
  cases z with
  | d x=>unfold RepZ at k1;exact k1.2
  | own e s es=>
   unfold RepZ at k1
   show RepD C (.sl s es) u
   unfold RepD
   rcases k1 with ⟨rfl,rfl,rfl⟩|⟨b,cp,rfl,h1,_⟩
   ·exact ⟨none,0,rfl,Nat.le_refl _,by decide,.inl rfl⟩
   ·rcases h1 with ⟨h1,_⟩|⟨b',h1,rfl,h2,h3,h4⟩
    ·cases h1
    ·obtain rfl:=Option.some.inj h1
     exact ⟨_,cp,rfl,h2,h3,.inr ⟨b,0,rfl,h4⟩⟩
  | _=>exact hz.elim
theorem AC.aggd {P:Program}{f:FuncId}{args:List A}{bx b0:Option (List Rz)}{zs:List Rz} (h:AC P f args bx fun r b=>r=.agg zs∧b=b0) (hz:∀ z∈zs,rzP z):AC P f args bx fun r b=>r=.d (.agg (zs.map rzD))∧b=b0:=
 ⟨h.1,fun w C β F0 vs h1 h2 h3 h4=>(h.2 w C β F0 vs h1 h2 h3 h4).mono fun x w' ⟨v,r,bx',C',F,F',he',⟨hq,hb0⟩,hb,g1,g2,g3,g4,g5,g6,g7,g8⟩=>by
  subst hq
  refine ⟨v,.d (.agg (zs.map rzD)),bx',C',[],F',he',⟨rfl,hb0⟩,hb,g1,g2,g3,g4,?_,g6,?_,fun b' hb'=>g8 b' (by simp only [List.append_nil] at hb';exact List.mem_append_left _ hb')⟩
  ·unfold RepZ at g5 ⊢
   obtain ⟨us,rfl,k1,k2⟩:=g5
   refine ⟨rfl,?_⟩
   unfold RepD
   exact ⟨us,rfl,rzD_rep hz k1,k2⟩
  ·rw [List.append_nil]
   exact (List.nodup_append.1 g7).1⟩

section
variable {p:Nat→Prop}{D:List RuleD}{c:Cur}
theorem mkR_1t (h:1<1+(bel (pickT c wordsL).2 3).1):mkR c D 1=(⟨(pickT c wordsL).1++fmtN D.length,1,1+(bel (pickT c wordsL).2 3).1,(once (bel (pickT c wordsL).2 3).2 2).1,[],[],[],[]⟩,(once (bel (pickT c wordsL).2 3).2 2).2):=by
 unfold mkR;simp only [if_true,if_pos h]
theorem mkR_1f (h:¬1<1+(bel (pickT c wordsL).2 3).1):mkR c D 1=(⟨(pickT c wordsL).1++fmtN D.length,1,1+(bel (pickT c wordsL).2 3).1,false,[],[],[],[]⟩,(bel (pickT c wordsL).2 3).2):=by
 unfold mkR;simp only [if_true,if_neg h]
theorem mkR_2:mkR c D 2=(⟨(pickT c wordsL).1++fmtN D.length,2,0,false,(bysC (1+(bel (pickT c wordsL).2 3).1).toNat (bel (pickT c wordsL).2 3).2).1,[],[],[]⟩,(bysC (1+(bel (pickT c wordsL).2 3).1).toNat (bel (pickT c wordsL).2 3).2).2):=rfl
theorem mkR_3:mkR c D 3=(⟨(pickT c wordsL).1++fmtN D.length,3,1+(bel (pickT c wordsL).2 4).1,false,[],[],[],[]⟩,(bel (pickT c wordsL).2 4).2):=rfl
theorem mkR_4:mkR c D 4=(⟨(pickT c wordsL).1++fmtN D.length,4,0,false,[],[],[],[(pickI (pickT c wordsL).2 (intIx D D.length)).1]⟩,(pickI (pickT c wordsL).2 (intIx D D.length)).2):=rfl
theorem mkR_5:mkR c D 5=(⟨(pickT c wordsL).1++fmtN D.length,5,0,false,[],[],[],[(pickI (pickT c wordsL).2 (intIx D D.length)).1,(bel (pickI (pickT c wordsL).2 (intIx D D.length)).2 D.length).1]⟩,(bel (pickI (pickT c wordsL).2 (intIx D D.length)).2 D.length).2):=rfl
theorem mkR_6:mkR c D 6=(⟨(pickT c wordsL).1++fmtN D.length,6,0,false,[],(seqC D.length (1+(bel (pickT c wordsL).2 3).1).toNat (bel (pickT c wordsL).2 3).2 [] []).1.1,[],(seqC D.length (1+(bel (pickT c wordsL).2 3).1).toNat (bel (pickT c wordsL).2 3).2 [] []).1.2⟩,(seqC D.length (1+(bel (pickT c wordsL).2 3).1).toNat (bel (pickT c wordsL).2 3).2 [] []).2):=rfl
theorem mkR_7:mkR c D 7=(⟨(pickT c wordsL).1++fmtN D.length,7,0,false,[],[],(choC D.length (1+(bel (pickI (pickT c wordsL).2 (intIx D D.length)).2 3).1).toNat (bel (pickI (pickT c wordsL).2 (intIx D D.length)).2 3).2 [] [(pickI (pickT c wordsL).2 (intIx D D.length)).1]).1.1,(choC D.length (1+(bel (pickI (pickT c wordsL).2 (intIx D D.length)).2 3).1).toNat (bel (pickI (pickT c wordsL).2 (intIx D D.length)).2 3).2 [] [(pickI (pickT c wordsL).2 (intIx D D.length)).1]).1.2⟩,
  (choC D.length (1+(bel (pickI (pickT c wordsL).2 (intIx D D.length)).2 3).1).toNat (bel (pickI (pickT c wordsL).2 (intIx D D.length)).2 3).2 [] [(pickI (pickT c wordsL).2 (intIx D D.length)).1]).2):=rfl
theorem mkR_89 {k:Int} (h:k=8∨k=9):mkR c D k=(⟨(pickT c wordsL).1++fmtN D.length,k,0,false,[],[],[],[(bel (pickT c wordsL).2 D.length).1]⟩,(bel (pickT c wordsL).2 D.length).2):=by
 rcases h with rfl|rfl<;>rfl
theorem mkR_10:mkR c D 10=(⟨(pickT c wordsL).1++fmtN D.length,10,0,false,[UInt8.ofNat (pickI (pickT c wordsL).2 [0,10,59,255]).1.toNat],[],[],[]⟩,(pickI (pickT c wordsL).2 [0,10,59,255]).2):=rfl
theorem mkR_no {k:Int} (h:¬(1≤k∧k≤10)):mkR c D k=(⟨(pickT c wordsL).1++fmtN D.length,k,0,false,[],[],[],[]⟩,(pickT c wordsL).2):=by
 unfold mkR
 simp only
 repeat rw [if_neg (by omega)]
private def tyF:=ai (ai (ai tg22 (ai tg24 tg57)) (ai tg65 (ai tg26 tg73))) (ai (ai tg97 (ai tg3 tg4)) (ai tg5 (ai tg59 tg9)))
theorem mkR_q (hD:DB 1048576 D) (hl:D.length≤9) (hb:c.b.length≤1048576) (k:Int) (hk:k≠1→0<(intIx D D.length).length∧0<D.length):AC Tryz.prog 75 [.ptr 0 0,.d (encD D),.d (iD k)] (some ((curP p c).map .d)) (fun r b=>ZOk r (ruL (mkR c D k).1)∧b=some ((curP p (mkR c D k).2).map .d)):=by
 have c1:=pickT_c (p:=p) c hb (l:=wordsL) (by decide) (by decide)
 have hb1:(pickT c wordsL).2.b.length≤1048576:=by rw [pickT_b];exact hb
 have f1:=fmtS_c (n:=D.length) (by omega)
 have c3:=bel_c (p:=p) (pickT c wordsL).2 hb1 3
 have hb3:(bel (pickT c wordsL).2 3).2.b.length≤1048576:=by rw [bel_b];exact hb1
 have g3:=bel_in (pickT c wordsL).2 (n:=3) (by omega)
 have s1:(pickT c wordsL).1.size≤4:=words_size _ (pickT_mem c (by decide))
 have s2:(fmtN D.length).size=1:=fmtN_size (by omega)
 refine cbS Tryz.func75 rfl Tryz.call75 Tryz.ntmps75 fun en hsz hks hk0=>?_;refine enS ?_
 (repeat (first|refine walkS ?_|refine vS 0 (c1) ?_|refine cS (f1) ?_))
 refine aw_condS rfl (fun h1=>?_) (fun h1=>?_)
 ·subst h1
  have o3:=once_c (p:=p) (bel (pickT c wordsL).2 3).2 hb3 2
  (repeat (first|refine walkS ?_|refine vS 0 (c3) ?_))
  (refine ow_gd rfl rfl dsS (fun hg K1 hK1=>?_) (fun hg=>?_);((try simp only [hg]);refine evS ?_;refine hK1 _ ?_;clear hK1 K1);rotate_left;(simp only [Bool.not_true,Bool.not_false] at hg;simp only [St.set,hg]);rotate_left)
  ·(repeat (first|refine walkS ?_|refine vS 0 (o3) ?_))
   simp at hg
   (refine rtS Tryz.results75 ?_;exact ⟨_,_,.inl (by unfold ToZ;exact ⟨rfl,rfl⟩),_,(curP p (once (bel (pickT c wordsL).2 3).2 2).2:List Eng.D).map .d,[],rfl,toZL_d _ (curP p (once (bel (pickT c wordsL).2 3).2 2).2),by simp,⟨by rw [mkR_1t (by omega)];exact .inr ⟨_,rfl,(zlr (zlr (zlr (zlr (zln (zln (zln (zln zl0))))))))⟩,by rw [mkR_1t (by omega)];rfl⟩⟩)
  ·refine walkS ?_
   simp at hg
   (refine rtS Tryz.results75 ?_;exact ⟨_,_,.inl (by unfold ToZ;exact ⟨rfl,rfl⟩),_,(curP p (bel (pickT c wordsL).2 3).2:List Eng.D).map .d,[],rfl,toZL_d _ (curP p (bel (pickT c wordsL).2 3).2),by simp,⟨by rw [mkR_1f (by omega)];exact .inr ⟨_,rfl,(zlr (zlr (zlr (zlr (zln (zln (zln (zln zl0))))))))⟩,by rw [mkR_1f (by omega)];rfl⟩⟩)
 obtain ⟨hix,hl0⟩:=hk h1
 refine walkS ?_
 refine aw_condS rfl (fun h2=>?_) (fun h2=>?_)
 ·subst h2
  have b3:=bysC_o (p:=p) (bel (pickT c wordsL).2 3).2 hb3 (n:=(1+(bel (pickT c wordsL).2 3).1).toNat) (by omega)
  have e3:(((1+(bel (pickT c wordsL).2 3).1).toNat:Nat):Int)=1+(bel (pickT c wordsL).2 3).1:=by omega
  rw [e3] at b3
  (repeat (first|refine walkS ?_|refine vS 0 (c3) ?_))
  (refine ow_call1o (k:=0) ?_ dsS rfl (b3) rfl rfl ?_;exact trS;simp only [St.set,List.map_cons,List.map_nil,List.length_map,Nat.reduceAdd])
  refine walkS ?_
  (refine rtS Tryz.results75 ?_;exact ⟨_,_,.inl (tza (tzd (tzd (tzd (tzd (tzo (by simp [lk,St.mem]) (tzd (tzd (tzd tzn))))))))),_,(curP p (bysC (1+(bel (pickT c wordsL).2 3).1).toNat (bel (pickT c wordsL).2 3).2).2:List Eng.D).map .d,[],rfl,toZL_d _ (curP p (bysC (1+(bel (pickT c wordsL).2 3).1).toNat (bel (pickT c wordsL).2 3).2).2),by simp,⟨by rw [mkR_2];exact .inl ⟨_,rfl,(zlr (zlr (zlr (zlr (zlr (zln (zln (zln zl0))))))))⟩,by rw [mkR_2];rfl⟩⟩)
 refine walkS ?_
 refine aw_condS rfl (fun h3=>?_) (fun h3=>?_)
 ·subst h3
  have c4:=bel_c (p:=p) (pickT c wordsL).2 hb1 4
  have g4:=bel_in (pickT c wordsL).2 (n:=4) (by omega)
  (repeat (first|refine walkS ?_|refine vS 0 (c4) ?_))
  (refine rtS Tryz.results75 ?_;exact ⟨_,_,.inl (by unfold ToZ;exact ⟨rfl,rfl⟩),_,(curP p (bel (pickT c wordsL).2 4).2:List Eng.D).map .d,[],rfl,toZL_d _ (curP p (bel (pickT c wordsL).2 4).2),by simp,⟨by rw [mkR_3];exact .inr ⟨_,rfl,(zlr (zlr (zlr (zlr (zln (zln (zln (zln zl0))))))))⟩,by rw [mkR_3];rfl⟩⟩)
 have i1:=intIx_c (p:=p) hD (Nat.le_refl _) (pickT c wordsL).2 hb1 hix
 have hbi:(pickI (pickT c wordsL).2 (intIx D D.length)).2.b.length≤1048576:=by rw [pickI_b];exact hb1
 refine walkS ?_
 refine aw_condS rfl (fun h4=>?_) (fun h4=>?_)
 ·subst h4
  (repeat (first|refine walkS ?_|refine vS 0 (i1) ?_))
  (refine rtS Tryz.results75 ?_;exact ⟨_,_,.inl (tza (tzd (tzd (tzd (tzd (tzd (tzd (tzd (tzo (by simp [lk,St.mem]) tzn))))))))),_,(curP p (pickI (pickT c wordsL).2 (intIx D D.length)).2:List Eng.D).map .d,[],rfl,toZL_d _ (curP p (pickI (pickT c wordsL).2 (intIx D D.length)).2),by simp,⟨by rw [mkR_4];exact .inl ⟨_,rfl,(zlr (zlr (zlr (zlr (zln (zln (zln (zlr zl0))))))))⟩,by rw [mkR_4];rfl⟩⟩)
 refine walkS ?_
 refine aw_condS rfl (fun h5=>?_) (fun h5=>?_)
 ·subst h5
  have n1:=bel_c (p:=p) (pickI (pickT c wordsL).2 (intIx D D.length)).2 hbi D.length
  (repeat (first|refine walkS ?_|refine vS 0 (i1) ?_|refine vS 0 (n1) ?_))
  (refine rtS Tryz.results75 ?_;exact ⟨_,_,.inl (tza (tzd (tzd (tzd (tzd (tzd (tzd (tzd (tzo (by simp [lk,St.mem]) tzn))))))))),_,(curP p (bel (pickI (pickT c wordsL).2 (intIx D D.length)).2 D.length).2:List Eng.D).map .d,[],rfl,toZL_d _ (curP p (bel (pickI (pickT c wordsL).2 (intIx D D.length)).2 D.length).2),by simp,⟨by rw [mkR_5];exact .inl ⟨_,rfl,(zlr (zlr (zlr (zlr (zln (zln (zln (zlr zl0))))))))⟩,by rw [mkR_5];rfl⟩⟩)
 refine walkS ?_
 refine aw_condS rfl (fun h6=>?_) (fun h6=>?_)
 ·subst h6
  obtain ⟨m,hm⟩:∃ m,m=(1+(bel (pickT c wordsL).2 3).1).toNat:=⟨_,rfl⟩
  have hm1:1+(bel (pickT c wordsL).2 3).1=(m:Int):=by omega
  have hm3:m≤3:=by omega
  rw [mkR_6,←hm]
  (repeat (first|refine ctlS ?_|(refine ol_go ?_ (fun K1 hK1=>?_);exact trS;refine evS ?_;(try simp only [hm1]);refine hK1 _ _ ?_;clear hK1 K1)|(refine ow_go ?_ dsS (fun K1 hK1=>?_);exact trS;refine evS ?_;(try simp only [hm1]);refine hK1 _ ?_;clear hK1 K1)|refine skipS ?_|refine vS 0 (c3) ?_))
  refine aw_loopS [0,4,6,7,8,22] (fun κ s'=>[(κ,keyB s' 112 5),(κ+1,keyB s' 112 7)]) (fun _ x=>[(9,.d (iD (x.1:Nat)))]) [0,112] (fun κ x=>[(0,some ((curP p x.2.1).map .d)),(112,some [.d (sD ((pickT c wordsL).1++fmtN D.length)),.d (iD 6),.d (iD 0),.d (bD false),.d (.v (.slice none 0 0)),.own κ 9 1 (x.2.2.1.map fun s=>[sD s]),.d (.v (.slice none 0 0)),.own (κ+1) 3 1 (x.2.2.2.map fun n=>[iD n])])]) [] (fun κ x=>[(κ,some (x.2.2.1.length,9,1)),(κ+1,some (x.2.2.2.length,3,1))]) (fun x:Nat × Cur × List ByteArray × List Int=>(x.2.2.1.length+x.1=m∧x.2.2.2.length=x.2.2.1.length∧x.2.1.b.length≤1048576)∧seqC D.length x.1 x.2.1 x.2.2.1 x.2.2.2=seqC D.length m (bel (pickT c wordsL).2 3).2 [] []) (fun x=>x.1) ((m,(bel (pickT c wordsL).2 3).2,[],[])) hks (fun _=>rfl) ⟨⟨by simp,rfl,hb3⟩,rfl⟩ wkS ?_;intro x hx;refine headS ?_
  obtain ⟨i,c',ns,ks⟩:=x
  simp only at hx ⊢
  obtain ⟨⟨hx1,hx2,hx3⟩,hx4⟩:=hx
  refine walkS ?_
  refine aw_condS rfl (fun hc=>?_) (fun hc=>?_)
  ·obtain ⟨i,rfl⟩:∃ j,i=j+1:=⟨i - 1,by omega⟩
   have q1:=pickT_c (p:=p) c' hx3 (l:=pqrL) (by decide) (by decide)
   have q2:(pickT c' pqrL).1.size=1:=pqr_size _ (pickT_mem c' (by decide))
   have q3:=fmtN_size (n:=i+1) (by omega)
   have f2:=fmtS_c (n:=i+1) (by omega)
   have hxb:(pickT c' pqrL).2.b.length≤1048576:=by rw [pickT_b];exact hx3
   have n2:=bel_c (p:=p) (pickT c' pqrL).2 hxb D.length
   have e1:IntKind.i64.wrap (((i+1:Nat):Int) - 1)=(i:Int):=by rw [wrap_small (by omega) (by omega)];omega
   (repeat (first|refine ctlS ?_|(refine ol_go ?_ (fun K1 hK1=>?_);exact trS;refine evS ?_;(try simp only [e1]);refine hK1 _ _ ?_;clear hK1 K1)|(refine ow_go ?_ dsS (fun K1 hK1=>?_);exact trS;refine evS ?_;(try simp only [e1]);refine hK1 _ ?_;clear hK1 K1)|refine skipS ?_|refine vS 0 (q1) ?_|refine vS 0 (n2) ?_|refine cS (f2) ?_))
   refine ⟨(i,(bel (pickT c' pqrL).2 D.length).2,ns++[(pickT c' pqrL).1++fmtN (i+1)],ks++[(bel (pickT c' pqrL).2 D.length).1]),⟨⟨by simp;omega,by simp;omega,by simp only;rw [bel_b];exact hxb⟩,by rw [←hx4];rfl⟩,by simp only;omega,?_⟩
   exact wkS
  ·obtain rfl:i=0:=by omega
   refine walkS ?_
   rw [←hx4]
   (refine rtS Tryz.results75 ?_;exact ⟨_,_,.inl (tza (tzd (tzd (tzd (tzd (tzd (tzo (by simp [lk,St.mem]) (tzd (tzo (by simp [lk,St.mem]) tzn))))))))),_,(curP p c':List Eng.D).map .d,[],rfl,toZL_d _ (curP p c'),by simp,⟨by exact .inl ⟨_,rfl,(zlr (zlr (zlr (zlr (zln (zlr (zln (zlr zl0))))))))⟩,rfl⟩⟩)
 refine walkS ?_
 refine aw_condS rfl (fun h7=>?_) (fun h7=>?_)
 ·subst h7
  have k3:=bel_c (p:=p) (pickI (pickT c wordsL).2 (intIx D D.length)).2 hbi 3
  have gk:=bel_in (pickI (pickT c wordsL).2 (intIx D D.length)).2 (n:=3) (by omega)
  have hbk:(bel (pickI (pickT c wordsL).2 (intIx D D.length)).2 3).2.b.length≤1048576:=by rw [bel_b];exact hbi
  obtain ⟨m,hm⟩:∃ m,m=(1+(bel (pickI (pickT c wordsL).2 (intIx D D.length)).2 3).1).toNat:=⟨_,rfl⟩
  have hm1:1+(bel (pickI (pickT c wordsL).2 (intIx D D.length)).2 3).1=(m:Int):=by omega
  have hm3:m≤3:=by omega
  rw [mkR_7,←hm]
  (repeat (first|refine ctlS ?_|(refine ol_go ?_ (fun K1 hK1=>?_);exact trS;refine evS ?_;(try simp only [hm1]);refine hK1 _ _ ?_;clear hK1 K1)|(refine ow_go ?_ dsS (fun K1 hK1=>?_);exact trS;refine evS ?_;(try simp only [hm1]);refine hK1 _ ?_;clear hK1 K1)|refine skipS ?_|refine vS 0 (i1) ?_|refine vS 0 (k3) ?_))
  refine aw_loopS [0,6,7,8,22] (fun κ s'=>[(κ,keyB s' 112 6),(κ+1,keyB s' 112 7)]) (fun _ x=>[(10,.d (iD (x.1:Nat)))]) [0,112] (fun κ x=>[(0,some ((curP p x.2.1).map .d)),(112,some [.d (sD ((pickT c wordsL).1++fmtN D.length)),.d (iD 7),.d (iD 0),.d (bD false),.d (.v (.slice none 0 0)),.d (.v (.slice none 0 0)),.own κ 3 1 (x.2.2.1.map fun n=>[iD n]),.own (κ+1) 3 1 (x.2.2.2.map fun n=>[iD n])])]) [144] (fun κ x=>[(κ,some (x.2.2.1.length,3,1)),(κ+1,some (x.2.2.2.length,3,1))]) (fun x:Nat × Cur × List Int × List Int=>(x.2.2.1.length+x.1=m∧x.2.2.2.length=x.2.2.1.length+1∧x.2.1.b.length≤1048576)∧choC D.length x.1 x.2.1 x.2.2.1 x.2.2.2=choC D.length m (bel (pickI (pickT c wordsL).2 (intIx D D.length)).2 3).2 [] [(pickI (pickT c wordsL).2 (intIx D D.length)).1]) (fun x=>x.1) ((m,(bel (pickI (pickT c wordsL).2 (intIx D D.length)).2 3).2,[],[(pickI (pickT c wordsL).2 (intIx D D.length)).1])) hks (fun _=>rfl) ⟨⟨by simp,rfl,hbk⟩,rfl⟩ wkS ?_;intro x hx;refine headS ?_
  obtain ⟨i,c',ts,ks⟩:=x
  simp only at hx ⊢
  obtain ⟨⟨hx1,hx2,hx3⟩,hx4⟩:=hx
  refine walkS ?_
  refine aw_condS rfl (fun hc=>?_) (fun hc=>?_)
  ·obtain ⟨i,rfl⟩:∃ j,i=j+1:=⟨i - 1,by omega⟩
   have q1:=bel_c (p:=p) c' hx3 4
   have q2:=bel_in c' (n:=4) (by omega)
   have hxb:(bel c' 4).2.b.length≤1048576:=by rw [bel_b];exact hx3
   have n2:=bel_c (p:=p) (bel c' 4).2 hxb D.length
   have e1:IntKind.i64.wrap (((i+1:Nat):Int) - 1)=(i:Int):=by rw [wrap_small (by omega) (by omega)];omega
   have e2:IntKind.i64.wrap (4*(ts.length:Int))=4*(ts.length:Int):=wrap_small (by omega) (by omega)
   have e3:IntKind.i64.wrap (4*(ts.length:Int)+(bel c' 4).1)=4*(ts.length:Int)+(bel c' 4).1:=wrap_small (by omega) (by omega)
   (repeat (first|refine ctlS ?_|(refine ol_go ?_ (fun K1 hK1=>?_);exact trS;refine evS ?_;(try simp only [e1,e2,e3]);refine hK1 _ _ ?_;clear hK1 K1)|(refine ow_go ?_ dsS (fun K1 hK1=>?_);exact trS;refine evS ?_;(try simp only [e1,e2,e3]);refine hK1 _ ?_;clear hK1 K1)|refine skipS ?_|refine vS 0 (q1) ?_|refine vS 0 (n2) ?_))
   refine ⟨(i,(bel (bel c' 4).2 D.length).2,ts++[4*(ts.length:Int)+(bel c' 4).1],ks++[(bel (bel c' 4).2 D.length).1]),⟨⟨by simp;omega,by simp;omega,by simp only;rw [bel_b];exact hxb⟩,by rw [←hx4];rfl⟩,by simp only;omega,?_⟩
   exact wkS
  ·obtain rfl:i=0:=by omega
   refine walkS ?_
   rw [←hx4]
   (refine rtS Tryz.results75 ?_;exact ⟨_,_,.inl (tza (tzd (tzd (tzd (tzd (tzd (tzd (tzo (by simp [lk,St.mem]) (tzo (by simp [lk,St.mem]) tzn))))))))),_,(curP p c':List Eng.D).map .d,[],rfl,toZL_d _ (curP p c'),by simp,⟨by exact .inl ⟨_,rfl,(zlr (zlr (zlr (zlr (zln (zln (zlr (zlr zl0))))))))⟩,rfl⟩⟩)
 have n1:=bel_c (p:=p) (pickT c wordsL).2 hb1 D.length
 have KN:(k=8∨k=9)→True:=fun _=>trivial
 refine walkS ?_
 refine aw_condS rfl (fun h8=>?_) (fun h8=>?_)
 ·refine walkS ?_
  refine aw_condS rfl (fun hc=>?_) (fun hc=>?_)
  ·(repeat (first|refine walkS ?_|refine vS 0 (n1) ?_))
   (refine rtS Tryz.results75 ?_;exact ⟨_,_,.inl (tza (tzd (tzd (tzd (tzd (tzd (tzd (tzd (tzo (by simp [lk,St.mem]) tzn))))))))),_,(curP p (bel (pickT c wordsL).2 D.length).2:List Eng.D).map .d,[],rfl,toZL_d _ (curP p (bel (pickT c wordsL).2 D.length).2),by simp,⟨by rw [mkR_89 (.inl h8)];exact .inl ⟨_,rfl,(zlr (zlr (zlr (zlr (zln (zln (zln (zlr zl0))))))))⟩,by rw [mkR_89 (.inl h8)];rfl⟩⟩)
  ·(first|exact absurd trivial hc|exact absurd rfl hc|(cases hc;done)|omega|exact absurd hc (by decide)|(simp at hc;done))
 refine walkS ?_
 refine aw_condS rfl (fun h9=>?_) (fun h9=>?_)
 ·(repeat (first|refine walkS ?_|refine vS 0 (n1) ?_))
  (refine rtS Tryz.results75 ?_;exact ⟨_,_,.inl (tza (tzd (tzd (tzd (tzd (tzd (tzd (tzd (tzo (by simp [lk,St.mem]) tzn))))))))),_,(curP p (bel (pickT c wordsL).2 D.length).2:List Eng.D).map .d,[],rfl,toZL_d _ (curP p (bel (pickT c wordsL).2 D.length).2),by simp,⟨by rw [mkR_89 (.inr h9)];exact .inl ⟨_,rfl,(zlr (zlr (zlr (zlr (zln (zln (zln (zlr zl0))))))))⟩,by rw [mkR_89 (.inr h9)];rfl⟩⟩)
 refine walkS ?_
 refine aw_condS rfl (fun h10=>?_) (fun h10=>?_)
 ·subst h10
  have q1:=pickI_c (p:=p) (pickT c wordsL).2 hb1 (l:=[0,10,59,255]) (by decide) (by decide)
  have q2:=pickI_mem (pickT c wordsL).2 (l:=[0,10,59,255]) (by decide)
  have q3:=u8_draw (n:=(pickI (pickT c wordsL).2 [0,10,59,255]).1) (by simp only [List.mem_cons,List.not_mem_nil,or_false] at q2;omega)
  (repeat (first|refine ctlS ?_|(refine ol_go ?_ (fun K1 hK1=>?_);exact trS;refine evS ?_;(try simp only [q3]);refine hK1 _ _ ?_;clear hK1 K1)|(refine ow_go ?_ dsS (fun K1 hK1=>?_);exact trS;refine evS ?_;(try simp only [q3]);refine hK1 _ ?_;clear hK1 K1)|refine skipS ?_|refine vS 0 (q1) ?_))
  (refine rtS Tryz.results75 ?_;exact ⟨_,_,.inl (tza (tzd (tzd (tzd (tzd (tzo (by simp [lk,St.mem]) (tzd (tzd (tzd tzn))))))))),_,(curP p (pickI (pickT c wordsL).2 [0,10,59,255]).2:List Eng.D).map .d,[],rfl,toZL_d _ (curP p (pickI (pickT c wordsL).2 [0,10,59,255]).2),by simp,⟨by rw [mkR_10];exact .inl ⟨_,rfl,(zlr (zlr (zlr (zlr (zlr (zln (zln (zln zl0))))))))⟩,by rw [mkR_10];rfl⟩⟩)
 ·refine walkS ?_
  (refine rtS Tryz.results75 ?_;exact ⟨_,_,.inl (by unfold ToZ;exact ⟨rfl,rfl⟩),_,(curP p (pickT c wordsL).2:List Eng.D).map .d,[],rfl,toZL_d _ (curP p (pickT c wordsL).2),by simp,⟨by rw [mkR_no (by omega)];exact .inr ⟨_,rfl,(zlr (zlr (zlr (zlr (zln (zln (zln (zln zl0))))))))⟩,by rw [mkR_no (by omega)];rfl⟩⟩)
theorem mkR_o (hD:DB 1048576 D) (hl:D.length≤9) (hb:c.b.length≤1048576) (k:Int) (hk:k≠1→0<(intIx D D.length).length∧0<D.length):AC Tryz.prog 75 [.ptr 0 0,.d (encD D),.d (iD k)] (some ((curP p c).map .d)) (fun r b=>r=.agg (ruL (mkR c D k).1)∧b=some ((curP p (mkR c D k).2).map .d)):=(mkR_q hD hl hb k hk).zok
theorem mkR_c (hD:DB 1048576 D) (hl:D.length≤9) (hb:c.b.length≤1048576) (k:Int) (hk:k≠1→0<(intIx D D.length).length∧0<D.length):AC Tryz.prog 75 [.ptr 0 0,.d (encD D),.d (iD k)] (some ((curP p c).map .d)) (drwQ p (encR (mkR c D k).1) (mkR c D k).2):=(mkR_o hD hl hb k hk).aggd (fun z hz=>by
 simp only [ruL,List.mem_cons,List.not_mem_nil,or_false] at hz
 rcases hz with rfl|rfl|rfl|rfl|rfl|rfl|rfl|rfl<;>exact trivial)
end
end Go.Proofs.YtndnefealooolaaGreatDoor.Eng
namespace Go.Proofs.YtndnefealooolaaGreatDoor.Eng
open Go Go.RowKit

theorem AC.ivT {P:Program}{f:FuncId}{X:D}{xs:List A}{bx:Option (List Rz)}{Q:Rz→Option (List Rz)→Prop} (h:AC P f (.d (.iv (fun _=>True) X)::xs) bx Q):AC P f (.d X::xs) bx Q:=
 ⟨h.1,fun w C β F0 vs hC hr hbo hn=>h.2 w C β F0 vs hC (by
  unfold RepAL at hr ⊢
  obtain ⟨u,us,rfl,h1,h2⟩:=hr
  refine ⟨u,us,rfl,?_,h2⟩
  unfold RepA at h1 ⊢
  rw [repD_iv]
  exact RepD.mono (fun b o v h=>⟨h,trivial⟩) _ _ h1) hbo hn⟩
theorem toZ_ptr {m:Mem}{k:Nat}{ds:List D} (h:m.bx k=some (ds.map .d)):ToZ m (.ptr k 0) (.box ds) [k]:=by unfold ToZ;exact ⟨ds,rfl,h,rfl,rfl⟩
theorem newH_small {B:List UInt8} (hB:B.length≤1048576) (k:Nat):0≤newH B k∧newH B k≤1074790399:=by
 have:=newH_in B k
 omega
theorem newC_v {B:List UInt8} (hB:B.length≤1048576) (p:Nat→Prop):AC Tryz.prog 35 [.d (.iv p (encB B))] none (fun r' _=>r'=.box [.iv p (encB B),iD ((0:Nat):Int),iD (newH B (min B.length 4000))]):=by
 refine cbS Tryz.func35 rfl Tryz.call35 Tryz.ntmps35 fun en hsz hks hk0=>?_;refine enS ?_
 have e0:IntKind.i64.wrap (193017+(B.length:Int))=193017+(B.length:Int):=wrap_small (by omega) (by omega)
 (repeat (first|refine ctlS ?_|(refine ol_go ?_ (fun K1 hK1=>?_);exact trS;refine evS ?_;(try simp only [e0]);refine hK1 _ _ ?_;clear hK1 K1)|(refine ow_go ?_ dsS (fun K1 hK1=>?_);exact trS;refine evS ?_;(try simp only [e0]);refine hK1 _ ?_;clear hK1 K1)|refine skipS ?_))
 refine aw_loopS [0,2] (fun _ _=>[]) (fun _ k=>[(4,.d (iD (k:Nat))),(3,.d (iD (newH B k)))]) [] (fun _ _=>[]) [] (fun _ _=>[]) (fun k:Nat=>k≤min B.length 4000) (fun k=>min B.length 4000 - k) (0) hks (fun _=>rfl) (Nat.zero_le _) wkS ?_;intro x hx;refine headS ?_
 have hk:x≤min B.length 4000:=hx
 refine walkS ?_
 (refine ow_gd rfl rfl dsS (fun hg K1 hK1=>?_) (fun hg=>?_);((try simp only [hg]);refine evS ?_;refine hK1 _ ?_;clear hK1 K1);rotate_left;(simp only [Bool.not_true,Bool.not_false] at hg;simp only [St.set,hg]);rotate_left)
 ·simp at hg
  refine walkS ?_
  refine aw_condS rfl (fun hc=>?_) (fun hc=>?_)
  ·have hi:x<B.length:=by omega
   have i1:B[x]?=some B[x]:=getE? hi
   have g1:=newH_small hB x
   have hbt:=B[x].toNat_lt
   have e1:IntKind.i64.wrap (newH B x*137)=newH B x*137:=wrap_small (by omega) (by omega)
   have e2:IntKind.i64.wrap ((B[x].toNat:Nat):Int)=(B[x].toNat:Int):=wrap_small (by omega) (by omega)
   have e3:IntKind.i64.wrap (newH B x*137+(B[x].toNat:Int))=newH B x*137+(B[x].toNat:Int):=wrap_small (by omega) (by omega)
   have e4:IntKind.i64.wrap (newH B x*137+(B[x].toNat:Int)+11)=newH B x*137+(B[x].toNat:Int)+11:=wrap_small (by omega) (by omega)
   have e5:newH B (x+1)=IntKind.i64.wrap (((BitVec.ofInt IntKind.i64.bits (newH B x*137+(B[x].toNat:Int)+11) &&& BitVec.ofInt IntKind.i64.bits 1073741823).toNat:Nat):Int):=by
    rw [newH,and64,show B.getD x 0=B[x] by simp [List.getD,hi]]
   (repeat (first|refine ctlS ?_|(refine ol_go ?_ (fun K1 hK1=>?_);exact trS;refine evS ?_;(try simp only [e1,e2,e3,e4]);refine hK1 _ _ ?_;clear hK1 K1)|(refine ow_go ?_ dsS (fun K1 hK1=>?_);exact trS;refine evS ?_;(try simp only [e1,e2,e3,e4]);refine hK1 _ ?_;clear hK1 K1)|refine skipS ?_))
   refine ⟨x+1,by show x+1≤min B.length 4000;omega,by omega,?_⟩
   rw [e5]
   exact wkS
  ·obtain rfl:x=min B.length 4000:=by omega
   refine walkS ?_
   (refine rtS Tryz.results35 ?_;exact ⟨_,_,.inl (toZ_ptr rfl),by simp,rfl⟩)
 ·simp at hg
  refine walkS ?_
  refine aw_condS rfl (fun hc=>?_) (fun hc=>?_)
  ·(first|exact absurd trivial hc|exact absurd rfl hc|(cases hc;done)|omega|exact absurd hc (by decide)|(simp at hc;done))
  ·obtain rfl:x=min B.length 4000:=by omega
   refine walkS ?_
   (refine rtS Tryz.results35 ?_;exact ⟨_,_,.inl (toZ_ptr rfl),by simp,rfl⟩)
theorem newC_c {B:List UInt8} (hB:B.length≤1048576):AC Tryz.prog 35 [.d (encB B)] none (fun r' _=>r'=.box (curP (fun _=>True) (newC B))):=(newC_v hB _).ivT
theorem encRc_mk (r:RuleD):[sD r.name,iD r.kind,iD r.size,bD r.little,encB r.bytes,encS r.names,encI r.tags,encI r.kids]=encRc r:=rfl
section
variable {p:Nat→Prop}
theorem descC_c (c:Cur) (hb:c.b.length≤1048576):AC Tryz.prog 53 [.ptr 0 0] (some ((curP p c).map .d)) (drwQ p (encD (descC c).1) (descC c).2):=by
 have m0:=mkR_c (p:=p) (D:=[]) (c:=c) ⟨by simp,fun r h=>by cases h⟩ (by simp) hb 1 (fun h=>absurd rfl h)
 have m1:AC Tryz.prog 75 [.ptr 0 0,.d (.agg [.v (.slice none 0 0)]),.d (iD 1)] (some ((curP p c).map .d)) (drwQ p (encR (mkR c [] 1).1) (mkR c [] 1).2):=m0.w (by
  simp (decide:=true) only [wkL_d,wkL,wkA,encD,encDs,List.map_nil,wkD_aggd,dleL_cons,dleL_nil,dle_nil,wkD_selfT,and_true,true_and]
  exact ⟨0,rfl,rfl⟩)
 have hb1:(mkR c [] 1).2.b.length≤1048576:=by rw [mkR_b];exact hb
 have b6:=bel_c (p:=p) (mkR c [] 1).2 hb1 6
 have hb2:(bel (mkR c [] 1).2 6).2.b.length≤1048576:=by rw [bel_b];exact hb1
 have g6:=bel_in (mkR c [] 1).2 (n:=6) (by omega)
 obtain ⟨m,hm⟩:∃ m,m=(bel (mkR c [] 1).2 6).1.toNat:=⟨_,rfl⟩
 have hm1:(bel (mkR c [] 1).2 6).1=(m:Int):=by omega
 have hd:descC c=rulesC m (bel (mkR c [] 1).2 6).2 [(mkR c [] 1).1]:=by rw [hm];rfl
 refine cbS Tryz.func53 rfl Tryz.call53 Tryz.ntmps53 fun en hsz hks hk0=>?_;refine enS ?_
 (repeat (first|refine ctlS ?_|(refine ol_go ?_ (fun K1 hK1=>?_);exact trS;refine evS ?_;(try simp only [hm1,encRc_mk]);refine hK1 _ _ ?_;clear hK1 K1)|(refine ow_go ?_ dsS (fun K1 hK1=>?_);exact trS;refine evS ?_;(try simp only [hm1,encRc_mk]);refine hK1 _ ?_;clear hK1 K1)|refine skipS ?_|refine vS 0 (m1) ?_|refine vS 0 (b6) ?_))
 refine aw_loopS [0,2,3] (fun κ s'=>[(κ,keyB s' 48 0)]) (fun _ x=>[(4,.d (iD (x.1:Nat)))]) [0,48] (fun κ x=>[(0,some ((curP p x.2.1).map .d)),(48,some [.own κ 97 8 (x.2.2.map encRc)])]) [160] (fun κ x=>[(κ,some (x.2.2.length,97,8))]) (fun x:Nat × Cur × List RuleD=>(x.2.2.length+x.1≤6∧DInv x.2.2∧x.2.1.b.length≤1048576)∧rulesC x.1 x.2.1 x.2.2=rulesC m (bel (mkR c [] 1).2 6).2 [(mkR c [] 1).1]) (fun x=>x.1) ((m,(bel (mkR c [] 1).2 6).2,[(mkR c [] 1).1])) hks (fun _=>rfl) ⟨⟨by simp only [List.length_singleton];omega,DInv.one c,hb2⟩,rfl⟩ wkS ?_;intro x hx;refine headS ?_
 obtain ⟨i,c',D'⟩:=x
 simp only at hx ⊢
 obtain ⟨⟨hx1,hx2,hx3⟩,hx4⟩:=hx
 have hdb:=DInv.db hx2 (by omega)
 have hl0:=hx2.len
 refine walkS ?_
 refine aw_condS rfl (fun hc=>?_) (fun hc=>?_)
 ·obtain ⟨i,rfl⟩:∃ j,i=j+1:=⟨i - 1,by omega⟩
  have q1:=bel_c (p:=p) c' hx3 10
  have q2:=bel_in c' (n:=10) (by omega)
  have hxb:(bel c' 10).2.b.length≤1048576:=by rw [bel_b];exact hx3
  have q3:=mkR_c (p:=p) (c:=(bel c' 10).2) hdb (by omega) hxb (1+(bel c' 10).1) (fun _=>⟨intIx_ne hx2.fst _ hx2.len,hx2.len⟩)
  have e1:IntKind.i64.wrap (((i+1:Nat):Int) - 1)=(i:Int):=by rw [wrap_small (by omega) (by omega)];omega
  have e2:IntKind.i64.wrap (1+(bel c' 10).1)=1+(bel c' 10).1:=wrap_small (by omega) (by omega)
  (repeat (first|refine ctlS ?_|(refine ol_go ?_ (fun K1 hK1=>?_);exact trS;refine evS ?_;(try simp only [e1,e2,encRc_mk]);refine hK1 _ _ ?_;clear hK1 K1)|(refine ow_go ?_ dsS (fun K1 hK1=>?_);exact trS;refine evS ?_;(try simp only [e1,e2,encRc_mk]);refine hK1 _ ?_;clear hK1 K1)|refine skipS ?_|refine vS 0 (q1) ?_|refine vS 0 (q3) ?_))
  refine ⟨(i,(mkR (bel c' 10).2 D' (1+(bel c' 10).1)).2,D'++[(mkR (bel c' 10).2 D' (1+(bel c' 10).1)).1]),⟨⟨by simp;omega,hx2.snoc (mkR_ok hx2 _ (by omega)),by simp only;rw [mkR_b];exact hxb⟩,by rw [←hx4];rfl⟩,by simp only;omega,?_⟩
  exact wkS
 ·obtain rfl:i=0:=by omega
  refine walkS ?_
  rw [hd,←hx4]
  (refine rtS Tryz.results53 ?_;refine ⟨_,[],.inr (.inl ⟨.agg [encDs D'],rfl,rfl,?_⟩),_,(curP p c':List Eng.D).map .d,[],rfl,toZL_d _ (curP p c'),by simp,rfl,rfl⟩;exact wkDS3)
end
end Go.Proofs.YtndnefealooolaaGreatDoor.Eng
