/-
 Names of kinds, both sides.
-/
import Derived.Test.YtomfggmmhkpeeaaDoorKTy
import Derived.Test.YtomfggmmhkpeeaaDoorKN0
import Derived.Test.YtomfggmmhkpeeaaDoorKE4
set_option linter.unusedSimpArgs false
set_option linter.unusedVariables false
set_option linter.defProp false
set_option maxRecDepth 100000
set_option maxHeartbeats 4000000
namespace Go.Proofs.YtomfggmmhkpeeaaDoor.Eng
open Go Go.RowKit

def kName (k:Int):ByteArray:=
 if k=1 then ⟨#[105,110,116,101,103,101,114]⟩
 else if k=2 then ⟨#[99,111,110,115,116]⟩
 else if k=3 then ⟨#[102,105,120,101,100]⟩
 else if k=4 then ⟨#[115,105,122,101,100]⟩
 else if k=5 then ⟨#[97,114,114,97,121]⟩
 else if k=6 then ⟨#[115,101,113,117,101,110,99,101]⟩
 else if k=7 then ⟨#[99,104,111,105,99,101]⟩
 else if k=8 then ⟨#[111,112,116,105,111,110]⟩
 else if k=9 then ⟨#[99,104,101,99,107,101,100]⟩
 else if k=10 then ⟨#[116,101,114,109,105,110,97,116,101,100]⟩
 else ByteArray.empty
theorem kName_size (k:Int):(kName k).size≤16:=by
 unfold kName
 repeat' split
 all_goals decide
private def tyF:=ai (ai tg26 tg3) (ai tg4 tg9)
theorem kindI_c (k:Int):AC Tryd.prog 24 [.d (iD k)] none (fun r' _=>r'=.d (sD (kName k))):=by
 by_cases hk:1≤k∧k≤10
 ·have hr:=(inRange_c k 1 10).eqv (r1:=.d (bD true)) (by simp [hk])
  have k12:k=1∨k=2∨k=3∨k=4∨k=5∨k=6∨k=7∨k=8∨k=9∨k=10:=by omega
  rcases k12 with rfl|rfl|rfl|rfl|rfl|rfl|rfl|rfl|rfl|rfl
  all_goals
   refine cbS Tryd.func24 rfl Tryd.call24 Tryd.ntmps24 fun en hsz hks hk0=>?_;refine enS ?_
   (repeat (first|refine walkS ?_|refine cS (hr) ?_))
   refine aw_condS rfl (fun h2=>?_) (fun h2=>?_)
   ·(first|exact absurd trivial h2|exact absurd rfl h2|(cases h2;done)|omega|exact absurd h2 (by decide)|(simp at h2;done))
   (repeat (first|refine ctlS ?_|(refine ol_go ?_ (fun K1 hK1=>?_);exact trS;refine evS ?_;(try simp only [Int.reduceSub]);refine hK1 _ _ ?_;clear hK1 K1)|(refine ow_go ?_ dsS (fun K1 hK1=>?_);exact trS;refine evS ?_;(try simp only [Int.reduceSub]);refine hK1 _ ?_;clear hK1 K1)|refine skipS ?_))
   (refine rtS Tryd.results24 ?_;exact ⟨_,_,.inl ⟨rfl,rfl⟩,List.nodup_nil,rfl⟩)
 ·have hr:=(inRange_c k 1 10).eqv (r1:=.d (bD false)) (by simp;omega)
  have e:kName k=ByteArray.empty:=by
   unfold kName
   repeat' split
   all_goals first|rfl|omega
  rw [e]
  refine cbS Tryd.func24 rfl Tryd.call24 Tryd.ntmps24 fun en hsz hks hk0=>?_;refine enS ?_
  (repeat (first|refine walkS ?_|refine cS (hr) ?_))
  refine aw_condS rfl (fun h2=>?_) (fun h2=>?_)
  ·refine walkS ?_
   (refine rtS Tryd.results24 ?_;exact ⟨_,_,.inl ⟨rfl,rfl⟩,List.nodup_nil,rfl⟩)
  ·(first|exact absurd trivial h2|exact absurd rfl h2|(cases h2;done)|omega|exact absurd h2 (by decide)|(simp at h2;done))
theorem kindS_c (k:Int):AC Tryd.prog 15 [.d (iD k)] none (fun r' _=>r'=.d (sD (kName k))):=by
 by_cases hk:1≤k∧k≤10
 ·have hr:=(l1In_c k 1 10).eqv (r1:=.d (bD true)) (by simp [hk])
  have k12:k=1∨k=2∨k=3∨k=4∨k=5∨k=6∨k=7∨k=8∨k=9∨k=10:=by omega
  rcases k12 with rfl|rfl|rfl|rfl|rfl|rfl|rfl|rfl|rfl|rfl
  all_goals
   refine cbS Tryd.func15 rfl Tryd.call15 Tryd.ntmps15 fun en hsz hks hk0=>?_;refine enS ?_
   (repeat (first|refine walkS ?_|refine cS (hr) ?_))
   refine aw_condS rfl (fun h2=>?_) (fun h2=>?_)
   ·(first|exact absurd trivial h2|exact absurd rfl h2|(cases h2;done)|omega|exact absurd h2 (by decide)|(simp at h2;done))
   refine walkS ?_
   (refine rtS Tryd.results15 ?_;exact ⟨_,_,.inl ⟨rfl,rfl⟩,List.nodup_nil,rfl⟩)
 ·have hr:=(l1In_c k 1 10).eqv (r1:=.d (bD false)) (by simp;omega)
  have e:kName k=ByteArray.empty:=by
   unfold kName
   repeat' split
   all_goals first|rfl|omega
  rw [e]
  refine cbS Tryd.func15 rfl Tryd.call15 Tryd.ntmps15 fun en hsz hks hk0=>?_;refine enS ?_
  (repeat (first|refine walkS ?_|refine cS (hr) ?_))
  refine aw_condS rfl (fun h2=>?_) (fun h2=>?_)
  ·refine walkS ?_
   (refine rtS Tryd.results15 ?_;exact ⟨_,_,.inl ⟨rfl,rfl⟩,List.nodup_nil,rfl⟩)
  ·(first|exact absurd trivial h2|exact absurd rfl h2|(cases h2;done)|omega|exact absurd h2 (by decide)|(simp at h2;done))
end Go.Proofs.YtomfggmmhkpeeaaDoor.Eng
